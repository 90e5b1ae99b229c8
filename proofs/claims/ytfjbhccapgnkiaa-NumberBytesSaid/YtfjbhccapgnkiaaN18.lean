import Derived.Test.YtfjbhccapgnkiaaN26
namespace Go.Proofs.Ytfjbhccapgnkiaa.P
open Go.RowKit Go.Proofs.YtfjbhccapgnkiaaW.PrintWords Go.Proofs.YtfjbhccapgnkiaaW.PrintLast Go.Proofs.YtfjbhccapgnkiaaW.PrintMore
attribute [local go_sem] max2_int min2_int max_two min_two max_three min_three max_four min_four
set_option linter.unusedVariables false
set_option linter.unusedSimpArgs false

attribute [local go_sem] stC stF
/-! ### number.Put -/
set_option maxHeartbeats 16000000 in
set_option maxRecDepth 100000 in
theorem number_Put.bad (p s : Bool) (A : Option Addr) (c : Nat) (l : List Int) (a b : Nat) (w : World) (hg : Gives58 w (.agg #[.bool p, .bool s, .slice A l.length c, .complex .f64 a b]) false) :
    Calls Try.prog 62 #[.agg #[.bool p, .bool s, .slice A l.length c, .complex .f64 a b]] w fun e w' => e = .returned (.tuple #[.slice none 0 0, .int .i64 1]) ∧ Below w.heap.size w w' := by
  have hu24 := Try.underlying24
  have hu25 := Try.underlying25
  have hu61 := Try.underlying61
  have n_ := Aside0.mk hg
  clear hg
  have hg := n_
  clear n_
  have HBW := Aside0.mk (Below.refl w.heap.size w)
  have Z := Aside0.mk (show w.heap.size ≤ w.heap.size from Nat.le_refl _)
  go_enter Try.func62, Try.ntmps62
  go_wp2_with (first
    | ((with_reducible refine gate_dst (N := 1) rfl ?_); (try (refine gate_guard (by rfl) ?_; dsimp only)); refine box_event ?hg (N := 1) ?hd (cs := #[.bool p, .bool s, .slice A l.length c, .complex .f64 a b]) (t := 61) ?hr ?_; (case hd => rfl); (case hg => rfl); (case hr => first | (go_simp; done) | (go_simp; rfl)); intro b1 hg wa1 hbox hb; have K_ := Kept.of_below hb (fun _ => False); replace Z := zA Z (K_.1); replace Z := zA Z (Nat.le_of_eq hg.symm); replace Z := zA Z (Nat.le_of_eq hg); replace Z := zA Z (blk_lt hbox); replace HBW := bS HBW hb; have BKb1 := Aside0.mk hbox; clear hb hbox hg K_; have zb10 : wa1.cell? ⟨b1, 0, none⟩ = some (.bool p) := (blk_cell BKb1.out 0).trans rfl; have zb11 : wa1.cell? ⟨b1, 1, none⟩ = some (.bool s) := (blk_cell BKb1.out 1).trans rfl; have zb12 : wa1.cell? ⟨b1, 2, none⟩ = some (.slice A l.length c) := (blk_cell BKb1.out 2).trans rfl; have zb13 : wa1.cell? ⟨b1, 3, none⟩ = some (.complex .f64 a b) := (blk_cell BKb1.out 3).trans rfl)
    | ((with_reducible refine gate_dst (N := 11) rfl ?_); (try (refine gate_guard (by rfl) ?_; dsimp only)); refine goesL_ (some 11) rfl rfl Try.func58 (by kernel_rfl) rfl #[.agg #[.bool p, .bool s, .slice A l.length c, .complex .f64 a b]] rfl (by (try simp only [List.map_toArray, List.map_cons, List.map_nil]); first | done | rfl | (simp only [List.length_drop, List.length_take]; rfl)) ?_; refine (hg.out _ HBW.out).mono ?_; rintro e wa2 ⟨rfl, hb⟩; refine ⟨_, rfl, ?_⟩; have K_ := Kept.of_below hb (fun _ => False); replace BKb1 := mvB BKb1 K_; replace Z := zA Z (K_.1); replace HBW := bS HBW hb; clear hb K_; clear zb10 zb11 zb12 zb13; have zb10 : wa2.cell? ⟨b1, 0, none⟩ = some (.bool p) := (blk_cell BKb1.out 0).trans rfl; have zb11 : wa2.cell? ⟨b1, 1, none⟩ = some (.bool s) := (blk_cell BKb1.out 1).trans rfl; have zb12 : wa2.cell? ⟨b1, 2, none⟩ = some (.slice A l.length c) := (blk_cell BKb1.out 2).trans rfl; have zb13 : wa2.cell? ⟨b1, 3, none⟩ = some (.complex .f64 a b) := (blk_cell BKb1.out 3).trans rfl))
  go_ret2
  exact ⟨rfl, HBW.out⟩
set_option maxHeartbeats 16000000 in
set_option maxRecDepth 100000 in
theorem number_Put.whole_false (A : Option Addr) (c : Nat) (l : List Int) (a b : Nat) (w : World) (hg : Gives58 w (.agg #[.bool false, .bool false, .slice A l.length c, .complex .f64 a b]) true) (hr : Kd.C (Kd.int .u8) w A l.length l) (hc : l.length ≤ c) (hl : l.length ≤ 140737488351232) :
    Calls Try.prog 62 #[.agg #[.bool false, .bool false, .slice A l.length c, .complex .f64 a b]] w fun e w' => ∃ v_ : Value, e = .returned (.tuple #[v_, .int .i64 0]) ∧ Kd.R (Kd.int .u8) 5 w' w.heap.size (fun _ => True) v_ (0 :: l) ∧ Below w.heap.size w w' := by
  have hu24 := Try.underlying24
  have hu25 := Try.underlying25
  have hu61 := Try.underlying61
  have n_ := Aside0.mk hg
  clear hg
  have hg := n_
  clear n_
  have n_ := Aside0.mk hr
  clear hr
  have hr := n_
  clear n_
  have n_ := Aside0.mk hc
  clear hc
  have hc := n_
  clear n_
  have n_ := Aside0.mk hl
  clear hl
  have hl := n_
  clear n_
  have HBW := Aside0.mk (Below.refl w.heap.size w)
  have Z := Aside0.mk (show w.heap.size ≤ w.heap.size from Nat.le_refl _)
  go_enter Try.func62, Try.ntmps62
  go_wp2_with (first
    | ((with_reducible refine gate_dst (N := 1) rfl ?_); (try (refine gate_guard (by rfl) ?_; dsimp only)); refine box_event ?hg (N := 1) ?hd (cs := #[.bool false, .bool false, .slice A l.length c, .complex .f64 a b]) (t := 61) ?hr ?_; (case hd => rfl); (case hg => rfl); (case hr => first | (go_simp; done) | (go_simp; rfl)); intro b1 hg wa1 hbox hb; have K_ := Kept.of_below hb (fun _ => False); replace Z := zA Z (K_.1); replace Z := zA Z (Nat.le_of_eq hg.symm); replace Z := zA Z (Nat.le_of_eq hg); replace Z := zA Z (blk_lt hbox); replace HBW := bS HBW hb; have BKb1 := Aside0.mk hbox; clear hb hbox hg K_; have zb10 : wa1.cell? ⟨b1, 0, none⟩ = some (.bool false) := (blk_cell BKb1.out 0).trans rfl; have zb11 : wa1.cell? ⟨b1, 1, none⟩ = some (.bool false) := (blk_cell BKb1.out 1).trans rfl; have zb12 : wa1.cell? ⟨b1, 2, none⟩ = some (.slice A l.length c) := (blk_cell BKb1.out 2).trans rfl; have zb13 : wa1.cell? ⟨b1, 3, none⟩ = some (.complex .f64 a b) := (blk_cell BKb1.out 3).trans rfl)
    | ((with_reducible refine gate_dst (N := 11) rfl ?_); (try (refine gate_guard (by rfl) ?_; dsimp only)); refine goesL_ (some 11) rfl rfl Try.func58 (by kernel_rfl) rfl #[.agg #[.bool false, .bool false, .slice A l.length c, .complex .f64 a b]] rfl (by (try simp only [List.map_toArray, List.map_cons, List.map_nil]); first | done | rfl | (simp only [List.length_drop, List.length_take]; rfl)) ?_; refine (hg.out _ HBW.out).mono ?_; rintro e wa2 ⟨rfl, hb⟩; refine ⟨_, rfl, ?_⟩; have K_ := Kept.of_below hb (fun _ => False); replace BKb1 := mvB BKb1 K_; replace Z := zA Z (K_.1); replace HBW := bS HBW hb; clear hb K_; clear zb10 zb11 zb12 zb13; have zb10 : wa2.cell? ⟨b1, 0, none⟩ = some (.bool false) := (blk_cell BKb1.out 0).trans rfl; have zb11 : wa2.cell? ⟨b1, 1, none⟩ = some (.bool false) := (blk_cell BKb1.out 1).trans rfl; have zb12 : wa2.cell? ⟨b1, 2, none⟩ = some (.slice A l.length c) := (blk_cell BKb1.out 2).trans rfl; have zb13 : wa2.cell? ⟨b1, 3, none⟩ = some (.complex .f64 a b) := (blk_cell BKb1.out 3).trans rfl)
    | ((with_reducible refine gate_dst (N := 45) rfl ?_); (try (refine gate_guard (by rfl) ?_; dsimp only)); refine lit_event ?hg (N := 45) ?hd (cs := #[.int .u8 0]) ?hr ?_; (case hd => rfl); (case hg => rfl); (case hr => first | (go_simp; done) | (go_simp; rfl)); intro g45 hg wa3 hbox hb; have K_ := Kept.of_below hb (fun _ => False); replace BKb1 := mvB BKb1 K_; replace Z := zA Z (K_.1); replace Z := zA Z (Nat.le_of_eq hg.symm); replace Z := zA Z (Nat.le_of_eq hg); replace Z := zA Z (blk_lt hbox); replace HBW := bS HBW hb; have BKg45 := Aside0.mk hbox; clear hb hbox hg K_; clear zb10 zb11 zb12 zb13; have zb10 : wa3.cell? ⟨b1, 0, none⟩ = some (.bool false) := (blk_cell BKb1.out 0).trans rfl; have zb11 : wa3.cell? ⟨b1, 1, none⟩ = some (.bool false) := (blk_cell BKb1.out 1).trans rfl; have zb12 : wa3.cell? ⟨b1, 2, none⟩ = some (.slice A l.length c) := (blk_cell BKb1.out 2).trans rfl; have zb13 : wa3.cell? ⟨b1, 3, none⟩ = some (.complex .f64 a b) := (blk_cell BKb1.out 3).trans rfl; have zg450 : wa3.cell? ⟨g45, 0, none⟩ = some (.int .u8 0) := (blk_cell BKg45.out 0).trans rfl)
    | ((with_reducible refine gate_dst (N := 49) rfl ?_); refine Kd.R_append_row (w0 := w) (Value.int .u8) (0 : Int) (h1 := fun _ => rfl) w.heap.size rfl (.tmp 45) (.tmp 48) 22 5 (.int .u8 0) 1 rfl Try.underlying22 info5 rfl (by decide) (.slice (some ⟨g45, 0, none⟩) 1 1) [0] l A l.length c (fun _ => True) rfl rfl (fun _ _ => trivial) ?ho ?hr ?hb ?hs ?hl ?_; (case ho => exact Kd.R_mono (R_blk BKg45.out (show w.heap.size ≤ g45 from by have hZ := Z.out; omega)) (fun _ _ => trivial)); (case hr => exact Kd.C_below hr.out HBW.out); (case hb => exact HBW.out); (case hs => exact below_size HBW.out); (case hl => have h9_ := hl.out; simp only [List.length_singleton]; omega); intro v1 wa4 hv hb1 _ _; have HV := Aside0.mk hv; have HB1 := Aside0.mk hb1; clear hv hb1))
  go_ret2
  exact ⟨_, rfl, HV.out, HB1.out⟩
set_option maxHeartbeats 16000000 in
set_option maxRecDepth 100000 in
theorem number_Put.whole_true (A : Option Addr) (c : Nat) (l : List Int) (a b : Nat) (w : World) (hg : Gives58 w (.agg #[.bool false, .bool true, .slice A l.length c, .complex .f64 a b]) true) (hr : Kd.C (Kd.int .u8) w A l.length l) (hc : l.length ≤ c) (hl : l.length ≤ 140737488351232) :
    Calls Try.prog 62 #[.agg #[.bool false, .bool true, .slice A l.length c, .complex .f64 a b]] w fun e w' => ∃ v_ : Value, e = .returned (.tuple #[v_, .int .i64 0]) ∧ Kd.R (Kd.int .u8) 5 w' w.heap.size (fun _ => True) v_ (1 :: l) ∧ Below w.heap.size w w' := by
  have hu24 := Try.underlying24
  have hu25 := Try.underlying25
  have hu61 := Try.underlying61
  have n_ := Aside0.mk hg
  clear hg
  have hg := n_
  clear n_
  have n_ := Aside0.mk hr
  clear hr
  have hr := n_
  clear n_
  have n_ := Aside0.mk hc
  clear hc
  have hc := n_
  clear n_
  have n_ := Aside0.mk hl
  clear hl
  have hl := n_
  clear n_
  have HBW := Aside0.mk (Below.refl w.heap.size w)
  have Z := Aside0.mk (show w.heap.size ≤ w.heap.size from Nat.le_refl _)
  go_enter Try.func62, Try.ntmps62
  go_wp2_with (first
    | ((with_reducible refine gate_dst (N := 1) rfl ?_); (try (refine gate_guard (by rfl) ?_; dsimp only)); refine box_event ?hg (N := 1) ?hd (cs := #[.bool false, .bool true, .slice A l.length c, .complex .f64 a b]) (t := 61) ?hr ?_; (case hd => rfl); (case hg => rfl); (case hr => first | (go_simp; done) | (go_simp; rfl)); intro b1 hg wa1 hbox hb; have K_ := Kept.of_below hb (fun _ => False); replace Z := zA Z (K_.1); replace Z := zA Z (Nat.le_of_eq hg.symm); replace Z := zA Z (Nat.le_of_eq hg); replace Z := zA Z (blk_lt hbox); replace HBW := bS HBW hb; have BKb1 := Aside0.mk hbox; clear hb hbox hg K_; have zb10 : wa1.cell? ⟨b1, 0, none⟩ = some (.bool false) := (blk_cell BKb1.out 0).trans rfl; have zb11 : wa1.cell? ⟨b1, 1, none⟩ = some (.bool true) := (blk_cell BKb1.out 1).trans rfl; have zb12 : wa1.cell? ⟨b1, 2, none⟩ = some (.slice A l.length c) := (blk_cell BKb1.out 2).trans rfl; have zb13 : wa1.cell? ⟨b1, 3, none⟩ = some (.complex .f64 a b) := (blk_cell BKb1.out 3).trans rfl)
    | ((with_reducible refine gate_dst (N := 11) rfl ?_); (try (refine gate_guard (by rfl) ?_; dsimp only)); refine goesL_ (some 11) rfl rfl Try.func58 (by kernel_rfl) rfl #[.agg #[.bool false, .bool true, .slice A l.length c, .complex .f64 a b]] rfl (by (try simp only [List.map_toArray, List.map_cons, List.map_nil]); first | done | rfl | (simp only [List.length_drop, List.length_take]; rfl)) ?_; refine (hg.out _ HBW.out).mono ?_; rintro e wa2 ⟨rfl, hb⟩; refine ⟨_, rfl, ?_⟩; have K_ := Kept.of_below hb (fun _ => False); replace BKb1 := mvB BKb1 K_; replace Z := zA Z (K_.1); replace HBW := bS HBW hb; clear hb K_; clear zb10 zb11 zb12 zb13; have zb10 : wa2.cell? ⟨b1, 0, none⟩ = some (.bool false) := (blk_cell BKb1.out 0).trans rfl; have zb11 : wa2.cell? ⟨b1, 1, none⟩ = some (.bool true) := (blk_cell BKb1.out 1).trans rfl; have zb12 : wa2.cell? ⟨b1, 2, none⟩ = some (.slice A l.length c) := (blk_cell BKb1.out 2).trans rfl; have zb13 : wa2.cell? ⟨b1, 3, none⟩ = some (.complex .f64 a b) := (blk_cell BKb1.out 3).trans rfl)
    | ((with_reducible refine gate_dst (N := 45) rfl ?_); (try (refine gate_guard (by rfl) ?_; dsimp only)); refine lit_event ?hg (N := 45) ?hd (cs := #[.int .u8 1]) ?hr ?_; (case hd => rfl); (case hg => rfl); (case hr => first | (go_simp; done) | (go_simp; rfl)); intro g45 hg wa3 hbox hb; have K_ := Kept.of_below hb (fun _ => False); replace BKb1 := mvB BKb1 K_; replace Z := zA Z (K_.1); replace Z := zA Z (Nat.le_of_eq hg.symm); replace Z := zA Z (Nat.le_of_eq hg); replace Z := zA Z (blk_lt hbox); replace HBW := bS HBW hb; have BKg45 := Aside0.mk hbox; clear hb hbox hg K_; clear zb10 zb11 zb12 zb13; have zb10 : wa3.cell? ⟨b1, 0, none⟩ = some (.bool false) := (blk_cell BKb1.out 0).trans rfl; have zb11 : wa3.cell? ⟨b1, 1, none⟩ = some (.bool true) := (blk_cell BKb1.out 1).trans rfl; have zb12 : wa3.cell? ⟨b1, 2, none⟩ = some (.slice A l.length c) := (blk_cell BKb1.out 2).trans rfl; have zb13 : wa3.cell? ⟨b1, 3, none⟩ = some (.complex .f64 a b) := (blk_cell BKb1.out 3).trans rfl; have zg450 : wa3.cell? ⟨g45, 0, none⟩ = some (.int .u8 1) := (blk_cell BKg45.out 0).trans rfl)
    | ((with_reducible refine gate_dst (N := 49) rfl ?_); refine Kd.R_append_row (w0 := w) (Value.int .u8) (0 : Int) (h1 := fun _ => rfl) w.heap.size rfl (.tmp 45) (.tmp 48) 22 5 (.int .u8 0) 1 rfl Try.underlying22 info5 rfl (by decide) (.slice (some ⟨g45, 0, none⟩) 1 1) [1] l A l.length c (fun _ => True) rfl rfl (fun _ _ => trivial) ?ho ?hr ?hb ?hs ?hl ?_; (case ho => exact Kd.R_mono (R_blk BKg45.out (show w.heap.size ≤ g45 from by have hZ := Z.out; omega)) (fun _ _ => trivial)); (case hr => exact Kd.C_below hr.out HBW.out); (case hb => exact HBW.out); (case hs => exact below_size HBW.out); (case hl => have h9_ := hl.out; simp only [List.length_singleton]; omega); intro v1 wa4 hv hb1 _ _; have HV := Aside0.mk hv; have HB1 := Aside0.mk hb1; clear hv hb1))
  go_ret2
  exact ⟨_, rfl, HV.out, HB1.out⟩
theorem be8_shift1 (b : Nat) (x : Int) (k : Nat) (hx : x = 56 - 8 * (k : Int)) (hk : k < 8) : (b : Int) / 2 ^ x.toNat % 256 = be8k b k := by
  have e1 : x.toNat = 8 * (7 - k) := by omega
  have e2 : (2 : Nat) ^ (8 * (7 - k)) = 256 ^ (7 - k) := by rw [Nat.pow_mul]
  rw [e1]
  unfold be8k
  rw [← e2, Int.natCast_emod, Int.natCast_ediv, Int.natCast_pow]
  rfl
set_option maxHeartbeats 16000000 in
set_option maxRecDepth 100000 in
theorem number_Put.pair (s : Bool) (A : Option Addr) (c : Nat) (l : List Int) (a b : Nat) (w : World) (hg : Gives58 w (.agg #[.bool true, .bool s, .slice A l.length c, .complex .f64 a b]) true) (ha : a < 18446744073709551616) (hb0 : b < 18446744073709551616) :
    Calls Try.prog 62 #[.agg #[.bool true, .bool s, .slice A l.length c, .complex .f64 a b]] w fun e w' => ∃ v_ : Value, e = .returned (.tuple #[v_, .int .i64 0]) ∧ Kd.R (Kd.int .u8) 5 w' w.heap.size (fun _ => True) v_ (2 :: (be8 a ++ be8 b)) ∧ Below w.heap.size w w' := by
  have hu24 := Try.underlying24
  have hu25 := Try.underlying25
  have hu61 := Try.underlying61
  have n_ := Aside0.mk hg
  clear hg
  have hg := n_
  clear n_
  have n_ := Aside0.mk ha
  clear ha
  have ha := n_
  clear n_
  have n_ := Aside0.mk hb0
  clear hb0
  have hb0 := n_
  clear n_
  have HBW := Aside0.mk (Below.refl w.heap.size w)
  have Z := Aside0.mk (show w.heap.size ≤ w.heap.size from Nat.le_refl _)
  have h1 := fun b w => f64bits_run b w
  have i0 : ∀ w, (Instr.index 135 (.agg #[.float .f64 a, .float .f64 b]) (.int .i64 0)).run Try.prog w = .ok (.float .f64 a) w := fun _ => by kernel_rfl
  have i1 : ∀ w, (Instr.index 135 (.agg #[.float .f64 a, .float .f64 b]) (.int .i64 1)).run Try.prog w = .ok (.float .f64 b) w := fun _ => by kernel_rfl
  go_enter Try.func62, Try.ntmps62
  go_wp2_with (first
    | ((with_reducible refine gate_dst (N := 1) rfl ?_); (try (refine gate_guard (by rfl) ?_; dsimp only)); refine box_event ?hg (N := 1) ?hd (cs := #[.bool true, .bool s, .slice A l.length c, .complex .f64 a b]) (t := 61) ?hr ?_; (case hd => rfl); (case hg => rfl); (case hr => first | (go_simp; done) | (go_simp; rfl)); intro b1 hg wa1 hbox hb; have K_ := Kept.of_below hb (fun _ => False); replace Z := zA Z (K_.1); replace Z := zA Z (Nat.le_of_eq hg.symm); replace Z := zA Z (Nat.le_of_eq hg); replace Z := zA Z (blk_lt hbox); replace HBW := bS HBW hb; have BKb1 := Aside0.mk hbox; clear hb hbox hg K_; have zb10 : wa1.cell? ⟨b1, 0, none⟩ = some (.bool true) := (blk_cell BKb1.out 0).trans rfl; have zb11 : wa1.cell? ⟨b1, 1, none⟩ = some (.bool s) := (blk_cell BKb1.out 1).trans rfl; have zb12 : wa1.cell? ⟨b1, 2, none⟩ = some (.slice A l.length c) := (blk_cell BKb1.out 2).trans rfl; have zb13 : wa1.cell? ⟨b1, 3, none⟩ = some (.complex .f64 a b) := (blk_cell BKb1.out 3).trans rfl)
    | ((with_reducible refine gate_dst (N := 11) rfl ?_); (try (refine gate_guard (by rfl) ?_; dsimp only)); refine goesL_ (some 11) rfl rfl Try.func58 (by kernel_rfl) rfl #[.agg #[.bool true, .bool s, .slice A l.length c, .complex .f64 a b]] rfl (by (try simp only [List.map_toArray, List.map_cons, List.map_nil]); first | done | rfl | (simp only [List.length_drop, List.length_take]; rfl)) ?_; refine (hg.out _ HBW.out).mono ?_; rintro e wa2 ⟨rfl, hb⟩; refine ⟨_, rfl, ?_⟩; have K_ := Kept.of_below hb (fun _ => False); replace BKb1 := mvB BKb1 K_; replace Z := zA Z (K_.1); replace HBW := bS HBW hb; clear hb K_; clear zb10 zb11 zb12 zb13; have zb10 : wa2.cell? ⟨b1, 0, none⟩ = some (.bool true) := (blk_cell BKb1.out 0).trans rfl; have zb11 : wa2.cell? ⟨b1, 1, none⟩ = some (.bool s) := (blk_cell BKb1.out 1).trans rfl; have zb12 : wa2.cell? ⟨b1, 2, none⟩ = some (.slice A l.length c) := (blk_cell BKb1.out 2).trans rfl; have zb13 : wa2.cell? ⟨b1, 3, none⟩ = some (.complex .f64 a b) := (blk_cell BKb1.out 3).trans rfl)
    | ((with_reducible refine gate_dst (N := 15) rfl ?_); (try (refine gate_guard (by rfl) ?_; dsimp only)); refine lit_event ?hg (N := 15) ?hd (cs := #[.int .u8 2]) ?hr ?_; (case hd => rfl); (case hg => rfl); (case hr => first | (go_simp; done) | (go_simp; rfl)); intro g15 hg wa3 hbox hb; have K_ := Kept.of_below hb (fun _ => False); replace BKb1 := mvB BKb1 K_; replace Z := zA Z (K_.1); replace Z := zA Z (Nat.le_of_eq hg.symm); replace Z := zA Z (Nat.le_of_eq hg); replace Z := zA Z (blk_lt hbox); replace HBW := bS HBW hb; have BKg15 := Aside0.mk hbox; clear hb hbox hg K_; clear zb10 zb11 zb12 zb13; have zb10 : wa3.cell? ⟨b1, 0, none⟩ = some (.bool true) := (blk_cell BKb1.out 0).trans rfl; have zb11 : wa3.cell? ⟨b1, 1, none⟩ = some (.bool s) := (blk_cell BKb1.out 1).trans rfl; have zb12 : wa3.cell? ⟨b1, 2, none⟩ = some (.slice A l.length c) := (blk_cell BKb1.out 2).trans rfl; have zb13 : wa3.cell? ⟨b1, 3, none⟩ = some (.complex .f64 a b) := (blk_cell BKb1.out 3).trans rfl; have zg150 : wa3.cell? ⟨g15, 0, none⟩ = some (.int .u8 2) := (blk_cell BKg15.out 0).trans rfl))
  have HR0 := Aside0.mk (R_blk BKg15.out (show w.heap.size ≤ g15 from by have hZ := Z.out; omega))
  have HT8 := Aside0.mk (And.intro (be8_len a) (be8_len b))
  clear BKg15 zg150
  go_loopw [4, 23] (fun v i w' => ∃ j : Int, i = .int .i64 j ∧ Aside0 (j = 0 ∨ j = 1 ∨ j = 2) ∧ Aside0 (Kd.R (Kd.int .u8) 5 w' w.heap.size (fun k => w.heap.size ≤ k) v ([2] ++ (be8 a ++ be8 b).take (8 * j).toNat)) ∧ Aside0 (Below w.heap.size w w')) (fun _ i _ => (2 - intOf i).toNat)
  case atStart => exact ⟨0, rfl, ⟨.inl rfl⟩, ⟨by simpa using HR0.out⟩, HBW⟩
  case round =>
    clear HR0
    obtain ⟨j, rfl, HJ, HR, HBr⟩ := hrel
    obtain ⟨wo, rfl⟩ : ∃ wo : World, wo = wr := ⟨_, rfl⟩
    have hj := HJ.out
    clear HJ
    rcases hj with rfl | rfl | rfl
    · go_wp2
      clear i0 i1
      go_loopw [4, 8] (fun v i w' => ∃ (x : Int) (k : Nat), i = .int .i64 x ∧ Aside0 (x = 56 - 8 * (k : Int) ∧ k ≤ 8) ∧ Aside0 (Kd.R (Kd.int .u8) 5 w' w.heap.size (fun k => w.heap.size ≤ k) v ([2] ++ [] ++ (be8 a).take k)) ∧ Aside0 (Below w.heap.size w w')) (fun _ i _ => (intOf i + 8).toNat)
      case atStart => exact ⟨56, 0, rfl, ⟨by omega⟩, ⟨by have h := HR.out; simpa using h⟩, HBr⟩
      case round =>
        clear HR HBr
        obtain ⟨x, k, rfl, HK, HR, HBr⟩ := hrel
        by_cases hlt : k < 8
        · have hge : decide (0 ≤ x) = true := decide_eq_true (by have := HK.out; omega)
          have b1 : 0 ≤ x := by have := HK.out; omega
          have b2 : x ≤ 56 := by have := HK.out; omega
          have HV := Aside0.mk (show (a : Int) / 2 ^ x.toNat % 256 = be8k a k from be8_shift1 a x k HK.out.1 hlt)
          have HT := Aside0.mk (be8_take a k hlt)
          have HLT := Aside0.mk hlt
          clear hlt
          go_wp2_with (first | ((with_reducible refine gate_builtin (b := .append) (xs := #[.tmp 32, .tmp 37]) rfl ?_); at_builtin; rw [HV.out]; refine Kd.R_append (Kd.int .u8) (w0 := w) w.heap.size rfl (.tmp 32) (.tmp 37) 22 5 (.int .u8 0) 1 rfl Try.underlying22 info5 rfl (by decide) (by omega) u4 ([2] ++ [] ++ (be8 a).take k) (be8k a k) [.int .u8 (be8k a k)] (fun k => w.heap.size ≤ k) (fun _ => False) rfl rfl ?aP (fun _ hk => hk.elim) ?aF ?aO ?aB ?aS ?aL ?_; (case aP => exact rfl); (case aB => exact HBr.out); (case aF => exact (fun _ hk => Nat.le_trans (below_size HBr.out) hk)); (case aO => exact HR.out); (case aS => exact below_size HBr.out); (case aL => have hh : ((be8 a).take k).length ≤ 8 := (by rw [List.length_take, be8_len]; omega); have hp := be8_len a; simp only [List.length_append, List.length_singleton, List.length_nil]; omega); intro v1 w1 ho hb hg hat; have HR1 := Aside0.mk ho; have HB1 := Aside0.mk hb; clear ho hb hg hat HR HBr))
          go_roundw
          case rel => exact ⟨x - 8, k + 1, rfl, ⟨by have := HK.out; have := HLT.out; omega⟩, ⟨by rw [HT.out, ← List.append_assoc]; exact HR1.out⟩, HB1⟩
          case measure => simp [intOf]; omega
        · have hge : decide (0 ≤ x) = false := decide_eq_false (by have := HK.out; omega)
          have HE := Aside0.mk (show (be8 a).take k = be8 a from List.take_of_length_le (by rw [be8_len]; omega))
          go_wp2
          go_roundw
          case rel => exact ⟨1, rfl, ⟨by decide⟩, ⟨by have h := HR.out; rw [HE.out] at h; rw [show (8 * (1 : Int)).toNat = 8 from rfl, List.take_append_of_le_length (by rw [HT8.out.1]; decide), List.take_of_length_le (by rw [HT8.out.1]; decide)]; simpa using h⟩, HBr⟩
          case measure => simp [intOf]
    · go_wp2
      clear i0 i1
      go_loopw [4, 8] (fun v i w' => ∃ (x : Int) (k : Nat), i = .int .i64 x ∧ Aside0 (x = 56 - 8 * (k : Int) ∧ k ≤ 8) ∧ Aside0 (Kd.R (Kd.int .u8) 5 w' w.heap.size (fun k => w.heap.size ≤ k) v ([2] ++ be8 a ++ (be8 b).take k)) ∧ Aside0 (Below w.heap.size w w')) (fun _ i _ => (intOf i + 8).toNat)
      case atStart => exact ⟨56, 0, rfl, ⟨by omega⟩, ⟨by have h := HR.out; rw [show (8 * (1 : Int)).toNat = 8 from rfl, List.take_append_of_le_length (by rw [HT8.out.1]; decide), List.take_of_length_le (by rw [HT8.out.1]; decide)] at h; simpa using h⟩, HBr⟩
      case round =>
        clear HR HBr
        obtain ⟨x, k, rfl, HK, HR, HBr⟩ := hrel
        by_cases hlt : k < 8
        · have hge : decide (0 ≤ x) = true := decide_eq_true (by have := HK.out; omega)
          have b1 : 0 ≤ x := by have := HK.out; omega
          have b2 : x ≤ 56 := by have := HK.out; omega
          have HV := Aside0.mk (show (b : Int) / 2 ^ x.toNat % 256 = be8k b k from be8_shift1 b x k HK.out.1 hlt)
          have HT := Aside0.mk (be8_take b k hlt)
          have HLT := Aside0.mk hlt
          clear hlt
          go_wp2_with (first | ((with_reducible refine gate_builtin (b := .append) (xs := #[.tmp 32, .tmp 37]) rfl ?_); at_builtin; rw [HV.out]; refine Kd.R_append (Kd.int .u8) (w0 := w) w.heap.size rfl (.tmp 32) (.tmp 37) 22 5 (.int .u8 0) 1 rfl Try.underlying22 info5 rfl (by decide) (by omega) u4 ([2] ++ be8 a ++ (be8 b).take k) (be8k b k) [.int .u8 (be8k b k)] (fun k => w.heap.size ≤ k) (fun _ => False) rfl rfl ?aP (fun _ hk => hk.elim) ?aF ?aO ?aB ?aS ?aL ?_; (case aP => exact rfl); (case aB => exact HBr.out); (case aF => exact (fun _ hk => Nat.le_trans (below_size HBr.out) hk)); (case aO => exact HR.out); (case aS => exact below_size HBr.out); (case aL => have hh : ((be8 b).take k).length ≤ 8 := (by rw [List.length_take, be8_len]; omega); have hp := be8_len a; simp only [List.length_append, List.length_singleton, List.length_nil]; omega); intro v1 w1 ho hb hg hat; have HR1 := Aside0.mk ho; have HB1 := Aside0.mk hb; clear ho hb hg hat HR HBr))
          go_roundw
          case rel => exact ⟨x - 8, k + 1, rfl, ⟨by have := HK.out; have := HLT.out; omega⟩, ⟨by rw [HT.out, ← List.append_assoc]; exact HR1.out⟩, HB1⟩
          case measure => simp [intOf]; omega
        · have hge : decide (0 ≤ x) = false := decide_eq_false (by have := HK.out; omega)
          have HE := Aside0.mk (show (be8 b).take k = be8 b from List.take_of_length_le (by rw [be8_len]; omega))
          go_wp2
          go_roundw
          case rel => exact ⟨2, rfl, ⟨by decide⟩, ⟨by have h := HR.out; rw [HE.out] at h; rw [show (8 * (2 : Int)).toNat = 16 from rfl, List.take_of_length_le (by rw [List.length_append, HT8.out.1, HT8.out.2]; decide)]; rw [List.append_assoc] at h; exact h⟩, HBr⟩
          case measure => simp [intOf]
    · go_wp2
      go_ret2
      exact ⟨_, rfl, Kd.R_mono (show Kd.R (Kd.int .u8) 5 _ w.heap.size _ _ (2 :: (be8 a ++ be8 b)) from by have h := HR.out; rw [show (8 * (2 : Int)).toNat = 16 from rfl, List.take_of_length_le (by rw [List.length_append, HT8.out.1, HT8.out.2]; decide)] at h; exact h) (fun _ _ => trivial), HBr.out⟩

end Go.Proofs.Ytfjbhccapgnkiaa.P
