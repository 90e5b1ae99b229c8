import Derived.Test.YtfjbhccapgnkiaaN26
import Derived.Test.YtfjbhccapgnkiaaN11
namespace Go.Proofs.Ytfjbhccapgnkiaa.P
open Go.RowKit Go.Proofs.YtfjbhccapgnkiaaW.PrintWords Go.Proofs.YtfjbhccapgnkiaaW.PrintLast Go.Proofs.YtfjbhccapgnkiaaW.PrintMore
attribute [local go_sem] max2_int min2_int max_two min_two max_three min_three max_four min_four
set_option linter.unusedVariables false
set_option linter.unusedSimpArgs false

attribute [local go_sem] stC stF
/-! ### lapidaryref06.Right, of -/
set_option maxHeartbeats 16000000 in
set_option maxRecDepth 100000 in
theorem ref_Right.pt (A : Option Addr) (c : Nat) (l : List Int) (a b : Nat) (w : World) (hr : Kd.C (Kd.int .u8) w A l.length l) (hc : l.length ≤ c) :
    Calls Try.prog 96 #[.agg #[.bool true, .bool true, .slice A l.length c, .float .f64 a, .float .f64 b]] w fun e w' => e = .returned (.bool false) ∧ Below w.heap.size w w' := by
  have hu24 := Try.underlying24
  have hu25 := Try.underlying25
  have hu61 := Try.underlying61
  have hu58 := Try.underlying58
  have n_ := Aside0.mk hr
  clear hr
  have hr := n_
  clear n_
  have n_ := Aside0.mk hc
  clear hc
  have hc := n_
  clear n_
  have HBW := Aside0.mk (Below.refl w.heap.size w)
  have Z := Aside0.mk (show w.heap.size ≤ w.heap.size from Nat.le_refl _)
  go_enter Try.func96, Try.ntmps96
  go_wp2_with (first
    | ((with_reducible refine gate_dst (N := 1) rfl ?_); (try (refine gate_guard (by rfl) ?_; dsimp only)); refine box_event ?hg (N := 1) ?hd (cs := #[.bool true, .bool true, .slice A l.length c, .float .f64 a, .float .f64 b]) (t := 58) ?hr ?_; (case hd => rfl); (case hg => rfl); (case hr => first | (go_simp; done) | (go_simp; rfl)); intro b1 hg wa1 hbox hb; have K_ := Kept.of_below hb (fun _ => False); replace Z := zA Z (K_.1); replace Z := zA Z (Nat.le_of_eq hg.symm); replace Z := zA Z (Nat.le_of_eq hg); replace Z := zA Z (blk_lt hbox); replace HBW := bS HBW hb; have BKb1 := Aside0.mk hbox; clear hb hbox hg K_; have zb10 : wa1.cell? ⟨b1, 0, none⟩ = some (.bool true) := (blk_cell BKb1.out 0).trans rfl; have zb11 : wa1.cell? ⟨b1, 1, none⟩ = some (.bool true) := (blk_cell BKb1.out 1).trans rfl; have zb12 : wa1.cell? ⟨b1, 2, none⟩ = some (.slice A l.length c) := (blk_cell BKb1.out 2).trans rfl; have zb13 : wa1.cell? ⟨b1, 3, none⟩ = some (.float .f64 a) := (blk_cell BKb1.out 3).trans rfl; have zb14 : wa1.cell? ⟨b1, 4, none⟩ = some (.float .f64 b) := (blk_cell BKb1.out 4).trans rfl))
  go_ret
  exact ⟨rfl, HBW.out⟩
set_option maxHeartbeats 16000000 in
set_option maxRecDepth 100000 in
theorem ref_Right.pf0 (A : Option Addr) (c : Nat) (l : List Int) (a b : Nat) (h0 : (l.length : Int) = 0) (w : World) (hr : Kd.C (Kd.int .u8) w A l.length l) (hc : l.length ≤ c) :
    Calls Try.prog 96 #[.agg #[.bool true, .bool false, .slice A l.length c, .float .f64 a, .float .f64 b]] w fun e w' => e = .returned (.bool true) ∧ Below w.heap.size w w' := by
  have hu24 := Try.underlying24
  have hu25 := Try.underlying25
  have hu61 := Try.underlying61
  have hu58 := Try.underlying58
  have n_ := Aside0.mk hr
  clear hr
  have hr := n_
  clear n_
  have n_ := Aside0.mk hc
  clear hc
  have hc := n_
  clear n_
  have HBW := Aside0.mk (Below.refl w.heap.size w)
  have Z := Aside0.mk (show w.heap.size ≤ w.heap.size from Nat.le_refl _)
  go_enter Try.func96, Try.ntmps96
  go_wp2_with (first
    | ((with_reducible refine gate_dst (N := 1) rfl ?_); (try (refine gate_guard (by rfl) ?_; dsimp only)); refine box_event ?hg (N := 1) ?hd (cs := #[.bool true, .bool false, .slice A l.length c, .float .f64 a, .float .f64 b]) (t := 58) ?hr ?_; (case hd => rfl); (case hg => rfl); (case hr => first | (go_simp; done) | (go_simp; rfl)); intro b1 hg wa1 hbox hb; have K_ := Kept.of_below hb (fun _ => False); replace Z := zA Z (K_.1); replace Z := zA Z (Nat.le_of_eq hg.symm); replace Z := zA Z (Nat.le_of_eq hg); replace Z := zA Z (blk_lt hbox); replace HBW := bS HBW hb; have BKb1 := Aside0.mk hbox; clear hb hbox hg K_; have zb10 : wa1.cell? ⟨b1, 0, none⟩ = some (.bool true) := (blk_cell BKb1.out 0).trans rfl; have zb11 : wa1.cell? ⟨b1, 1, none⟩ = some (.bool false) := (blk_cell BKb1.out 1).trans rfl; have zb12 : wa1.cell? ⟨b1, 2, none⟩ = some (.slice A l.length c) := (blk_cell BKb1.out 2).trans rfl; have zb13 : wa1.cell? ⟨b1, 3, none⟩ = some (.float .f64 a) := (blk_cell BKb1.out 3).trans rfl; have zb14 : wa1.cell? ⟨b1, 4, none⟩ = some (.float .f64 b) := (blk_cell BKb1.out 4).trans rfl))
  go_ret
  exact ⟨rfl, HBW.out⟩
set_option maxHeartbeats 16000000 in
set_option maxRecDepth 100000 in
theorem ref_Right.pf1 (A : Option Addr) (c : Nat) (l : List Int) (a b : Nat) (h0 : ¬ (l.length : Int) = 0) (w : World) (hr : Kd.C (Kd.int .u8) w A l.length l) (hc : l.length ≤ c) :
    Calls Try.prog 96 #[.agg #[.bool true, .bool false, .slice A l.length c, .float .f64 a, .float .f64 b]] w fun e w' => e = .returned (.bool false) ∧ Below w.heap.size w w' := by
  have hu24 := Try.underlying24
  have hu25 := Try.underlying25
  have hu61 := Try.underlying61
  have hu58 := Try.underlying58
  have n_ := Aside0.mk hr
  clear hr
  have hr := n_
  clear n_
  have n_ := Aside0.mk hc
  clear hc
  have hc := n_
  clear n_
  have HBW := Aside0.mk (Below.refl w.heap.size w)
  have Z := Aside0.mk (show w.heap.size ≤ w.heap.size from Nat.le_refl _)
  go_enter Try.func96, Try.ntmps96
  go_wp2_with (first
    | ((with_reducible refine gate_dst (N := 1) rfl ?_); (try (refine gate_guard (by rfl) ?_; dsimp only)); refine box_event ?hg (N := 1) ?hd (cs := #[.bool true, .bool false, .slice A l.length c, .float .f64 a, .float .f64 b]) (t := 58) ?hr ?_; (case hd => rfl); (case hg => rfl); (case hr => first | (go_simp; done) | (go_simp; rfl)); intro b1 hg wa1 hbox hb; have K_ := Kept.of_below hb (fun _ => False); replace Z := zA Z (K_.1); replace Z := zA Z (Nat.le_of_eq hg.symm); replace Z := zA Z (Nat.le_of_eq hg); replace Z := zA Z (blk_lt hbox); replace HBW := bS HBW hb; have BKb1 := Aside0.mk hbox; clear hb hbox hg K_; have zb10 : wa1.cell? ⟨b1, 0, none⟩ = some (.bool true) := (blk_cell BKb1.out 0).trans rfl; have zb11 : wa1.cell? ⟨b1, 1, none⟩ = some (.bool false) := (blk_cell BKb1.out 1).trans rfl; have zb12 : wa1.cell? ⟨b1, 2, none⟩ = some (.slice A l.length c) := (blk_cell BKb1.out 2).trans rfl; have zb13 : wa1.cell? ⟨b1, 3, none⟩ = some (.float .f64 a) := (blk_cell BKb1.out 3).trans rfl; have zb14 : wa1.cell? ⟨b1, 4, none⟩ = some (.float .f64 b) := (blk_cell BKb1.out 4).trans rfl))
  go_ret
  exact ⟨congrArg (fun q => Ending.returned (Value.bool q)) (beq_eq_false_iff_ne.2 h0), HBW.out⟩
set_option maxHeartbeats 16000000 in
set_option maxRecDepth 100000 in
theorem ref_Right.wn (A : Option Addr) (c : Nat) (l : List Int) (a b : Nat) (s : Bool) (w : World) (hr : Kd.C (Kd.int .u8) w A l.length l) (hc : l.length ≤ c) (h : lapidaryref02_Right.f s l = some false) :
    Calls Try.prog 96 #[.agg #[.bool false, .bool s, .slice A l.length c, .float .f64 a, .float .f64 b]] w fun e w' => e = .returned (.bool false) ∧ Below w.heap.size w w' := by
  have hu24 := Try.underlying24
  have hu25 := Try.underlying25
  have hu61 := Try.underlying61
  have hu58 := Try.underlying58
  have n_ := Aside0.mk hr
  clear hr
  have hr := n_
  clear n_
  have n_ := Aside0.mk hc
  clear hc
  have hc := n_
  clear n_
  have n_ := Aside0.mk h
  clear h
  have h := n_
  clear n_
  have HBW := Aside0.mk (Below.refl w.heap.size w)
  have Z := Aside0.mk (show w.heap.size ≤ w.heap.size from Nat.le_refl _)
  go_enter Try.func96, Try.ntmps96
  go_wp2_with (first
    | ((with_reducible refine gate_dst (N := 1) rfl ?_); (try (refine gate_guard (by rfl) ?_; dsimp only)); refine box_event ?hg (N := 1) ?hd (cs := #[.bool false, .bool s, .slice A l.length c, .float .f64 a, .float .f64 b]) (t := 58) ?hr ?_; (case hd => rfl); (case hg => rfl); (case hr => first | (go_simp; done) | (go_simp; rfl)); intro b1 hg wa1 hbox hb; have K_ := Kept.of_below hb (fun _ => False); replace Z := zA Z (K_.1); replace Z := zA Z (Nat.le_of_eq hg.symm); replace Z := zA Z (Nat.le_of_eq hg); replace Z := zA Z (blk_lt hbox); replace HBW := bS HBW hb; have BKb1 := Aside0.mk hbox; clear hb hbox hg K_; have zb10 : wa1.cell? ⟨b1, 0, none⟩ = some (.bool false) := (blk_cell BKb1.out 0).trans rfl; have zb11 : wa1.cell? ⟨b1, 1, none⟩ = some (.bool s) := (blk_cell BKb1.out 1).trans rfl; have zb12 : wa1.cell? ⟨b1, 2, none⟩ = some (.slice A l.length c) := (blk_cell BKb1.out 2).trans rfl; have zb13 : wa1.cell? ⟨b1, 3, none⟩ = some (.float .f64 a) := (blk_cell BKb1.out 3).trans rfl; have zb14 : wa1.cell? ⟨b1, 4, none⟩ = some (.float .f64 b) := (blk_cell BKb1.out 4).trans rfl)
    | ((with_reducible refine gate_dst (N := 18) rfl ?_); (try (refine gate_guard (by rfl) ?_; dsimp only)); refine goesL_ (some 18) rfl rfl Try.func40 (by kernel_rfl) rfl #[.agg #[.bool s, .slice A l.length c]] rfl (by (try simp only [List.map_toArray, List.map_cons, List.map_nil]); first | done | rfl | (simp only [List.length_drop, List.length_take]; rfl)) ?_; refine (lapidaryref02_Right.calls s _ _ l false _ (Kd.C_below hr.out HBW.out) hc.out h.out).mono ?_; rintro e wa2 ⟨rfl, hb⟩; refine ⟨_, rfl, ?_⟩; have K_ := Kept.of_below hb (fun _ => False); replace BKb1 := mvB BKb1 K_; replace Z := zA Z (K_.1); replace HBW := bS HBW hb; clear hb K_; clear zb10 zb11 zb12 zb13 zb14; have zb10 : wa2.cell? ⟨b1, 0, none⟩ = some (.bool false) := (blk_cell BKb1.out 0).trans rfl; have zb11 : wa2.cell? ⟨b1, 1, none⟩ = some (.bool s) := (blk_cell BKb1.out 1).trans rfl; have zb12 : wa2.cell? ⟨b1, 2, none⟩ = some (.slice A l.length c) := (blk_cell BKb1.out 2).trans rfl; have zb13 : wa2.cell? ⟨b1, 3, none⟩ = some (.float .f64 a) := (blk_cell BKb1.out 3).trans rfl; have zb14 : wa2.cell? ⟨b1, 4, none⟩ = some (.float .f64 b) := (blk_cell BKb1.out 4).trans rfl))
  go_ret
  exact ⟨rfl, HBW.out⟩
set_option maxHeartbeats 16000000 in
set_option maxRecDepth 100000 in
theorem ref_Right.wy (A : Option Addr) (c : Nat) (l : List Int) (a b : Nat) (s : Bool) (w : World) (hr : Kd.C (Kd.int .u8) w A l.length l) (hc : l.length ≤ c) (h : lapidaryref02_Right.f s l = some true) :
    Calls Try.prog 96 #[.agg #[.bool false, .bool s, .slice A l.length c, .float .f64 a, .float .f64 b]] w fun e w' => e = .returned (.bool (bsame a 0 && bsame b 0)) ∧ Below w.heap.size w w' := by
  have hu24 := Try.underlying24
  have hu25 := Try.underlying25
  have hu61 := Try.underlying61
  have hu58 := Try.underlying58
  have n_ := Aside0.mk hr
  clear hr
  have hr := n_
  clear n_
  have n_ := Aside0.mk hc
  clear hc
  have hc := n_
  clear n_
  have n_ := Aside0.mk h
  clear h
  have h := n_
  clear n_
  have HBW := Aside0.mk (Below.refl w.heap.size w)
  have Z := Aside0.mk (show w.heap.size ≤ w.heap.size from Nat.le_refl _)
  go_enter Try.func96, Try.ntmps96
  go_wp2_with (first
    | ((with_reducible refine gate_dst (N := 1) rfl ?_); (try (refine gate_guard (by rfl) ?_; dsimp only)); refine box_event ?hg (N := 1) ?hd (cs := #[.bool false, .bool s, .slice A l.length c, .float .f64 a, .float .f64 b]) (t := 58) ?hr ?_; (case hd => rfl); (case hg => rfl); (case hr => first | (go_simp; done) | (go_simp; rfl)); intro b1 hg wa1 hbox hb; have K_ := Kept.of_below hb (fun _ => False); replace Z := zA Z (K_.1); replace Z := zA Z (Nat.le_of_eq hg.symm); replace Z := zA Z (Nat.le_of_eq hg); replace Z := zA Z (blk_lt hbox); replace HBW := bS HBW hb; have BKb1 := Aside0.mk hbox; clear hb hbox hg K_; have zb10 : wa1.cell? ⟨b1, 0, none⟩ = some (.bool false) := (blk_cell BKb1.out 0).trans rfl; have zb11 : wa1.cell? ⟨b1, 1, none⟩ = some (.bool s) := (blk_cell BKb1.out 1).trans rfl; have zb12 : wa1.cell? ⟨b1, 2, none⟩ = some (.slice A l.length c) := (blk_cell BKb1.out 2).trans rfl; have zb13 : wa1.cell? ⟨b1, 3, none⟩ = some (.float .f64 a) := (blk_cell BKb1.out 3).trans rfl; have zb14 : wa1.cell? ⟨b1, 4, none⟩ = some (.float .f64 b) := (blk_cell BKb1.out 4).trans rfl)
    | ((with_reducible refine gate_dst (N := 18) rfl ?_); (try (refine gate_guard (by rfl) ?_; dsimp only)); refine goesL_ (some 18) rfl rfl Try.func40 (by kernel_rfl) rfl #[.agg #[.bool s, .slice A l.length c]] rfl (by (try simp only [List.map_toArray, List.map_cons, List.map_nil]); first | done | rfl | (simp only [List.length_drop, List.length_take]; rfl)) ?_; refine (lapidaryref02_Right.calls s _ _ l true _ (Kd.C_below hr.out HBW.out) hc.out h.out).mono ?_; rintro e wa2 ⟨rfl, hb⟩; refine ⟨_, rfl, ?_⟩; have K_ := Kept.of_below hb (fun _ => False); replace BKb1 := mvB BKb1 K_; replace Z := zA Z (K_.1); replace HBW := bS HBW hb; clear hb K_; clear zb10 zb11 zb12 zb13 zb14; have zb10 : wa2.cell? ⟨b1, 0, none⟩ = some (.bool false) := (blk_cell BKb1.out 0).trans rfl; have zb11 : wa2.cell? ⟨b1, 1, none⟩ = some (.bool s) := (blk_cell BKb1.out 1).trans rfl; have zb12 : wa2.cell? ⟨b1, 2, none⟩ = some (.slice A l.length c) := (blk_cell BKb1.out 2).trans rfl; have zb13 : wa2.cell? ⟨b1, 3, none⟩ = some (.float .f64 a) := (blk_cell BKb1.out 3).trans rfl; have zb14 : wa2.cell? ⟨b1, 4, none⟩ = some (.float .f64 b) := (blk_cell BKb1.out 4).trans rfl)
    | ((with_reducible refine gate_dst (N := 22) rfl ?_); (try (refine gate_guard (by rfl) ?_; dsimp only)); refine goesL_ (some 22) rfl rfl Try.func98 (by kernel_rfl) rfl #[.agg #[.bool false, .bool s, .slice A l.length c, .float .f64 a, .float .f64 b], .agg #[.bool false, .bool false, .slice none 0 0, .float .f64 0, .float .f64 0]] rfl (by (try simp only [List.map_toArray, List.map_cons, List.map_nil]); first | done | rfl | (simp only [List.length_drop, List.length_take]; rfl)) ?_; refine (ref_alike.calls _ _ _ _ _ a b _ _ _ _ _ 0 0 _).mono ?_; rintro e wa3 ⟨rfl, hb⟩; refine ⟨_, rfl, ?_⟩; have K_ := Kept.of_below hb (fun _ => False); replace BKb1 := mvB BKb1 K_; replace Z := zA Z (K_.1); replace HBW := bS HBW hb; clear hb K_; clear zb10 zb11 zb12 zb13 zb14; have zb10 : wa3.cell? ⟨b1, 0, none⟩ = some (.bool false) := (blk_cell BKb1.out 0).trans rfl; have zb11 : wa3.cell? ⟨b1, 1, none⟩ = some (.bool s) := (blk_cell BKb1.out 1).trans rfl; have zb12 : wa3.cell? ⟨b1, 2, none⟩ = some (.slice A l.length c) := (blk_cell BKb1.out 2).trans rfl; have zb13 : wa3.cell? ⟨b1, 3, none⟩ = some (.float .f64 a) := (blk_cell BKb1.out 3).trans rfl; have zb14 : wa3.cell? ⟨b1, 4, none⟩ = some (.float .f64 b) := (blk_cell BKb1.out 4).trans rfl))
  go_ret
  exact ⟨rfl, HBW.out⟩
set_option maxHeartbeats 16000000 in
set_option maxRecDepth 100000 in
theorem ref_of.calls (a b : Nat) (w : World) :
    Calls Try.prog 106 #[.float .f64 a, .float .f64 b] w fun e w' => e = .returned (.agg #[.bool true, .bool false, .slice none 0 0, .float .f64 a, .float .f64 b]) ∧ Below w.heap.size w w' := by
  have hu24 := Try.underlying24
  have hu25 := Try.underlying25
  have hu61 := Try.underlying61
  have hu58 := Try.underlying58
  have HBW := Aside0.mk (Below.refl w.heap.size w)
  have Z := Aside0.mk (show w.heap.size ≤ w.heap.size from Nat.le_refl _)
  go_enter Try.func106, Try.ntmps106
  go_wp2_with (first
    | ((with_reducible refine gate_dst (N := 4) rfl ?_); (try (refine gate_guard (by rfl) ?_; dsimp only)); refine box_event ?hg (N := 4) ?hd (cs := #[.bool false, .bool false, .slice none 0 0, .float .f64 0, .float .f64 0]) (t := 58) ?hr ?_; (case hd => rfl); (case hg => rfl); (case hr => first | (go_simp; done) | (go_simp; rfl)); intro b4 hg wa1 hbox hb; have K_ := Kept.of_below hb (fun _ => False); replace Z := zA Z (K_.1); replace Z := zA Z (Nat.le_of_eq hg.symm); replace Z := zA Z (Nat.le_of_eq hg); replace Z := zA Z (blk_lt hbox); replace HBW := bS HBW hb; have BKb4 := Aside0.mk hbox; clear hb hbox hg K_; have zb40 : wa1.cell? ⟨b4, 0, none⟩ = some (.bool false) := (blk_cell BKb4.out 0).trans rfl; have zb41 : wa1.cell? ⟨b4, 1, none⟩ = some (.bool false) := (blk_cell BKb4.out 1).trans rfl; have zb42 : wa1.cell? ⟨b4, 2, none⟩ = some (.slice none 0 0) := (blk_cell BKb4.out 2).trans rfl; have zb43 : wa1.cell? ⟨b4, 3, none⟩ = some (.float .f64 0) := (blk_cell BKb4.out 3).trans rfl; have zb44 : wa1.cell? ⟨b4, 4, none⟩ = some (.float .f64 0) := (blk_cell BKb4.out 4).trans rfl; have fb40 : wa1.frozen? ⟨b4, 0, none⟩ = false := blk_frozen BKb4.out 0; have fb41 : wa1.frozen? ⟨b4, 1, none⟩ = false := blk_frozen BKb4.out 1; have fb42 : wa1.frozen? ⟨b4, 2, none⟩ = false := blk_frozen BKb4.out 2; have fb43 : wa1.frozen? ⟨b4, 3, none⟩ = false := blk_frozen BKb4.out 3; have fb44 : wa1.frozen? ⟨b4, 4, none⟩ = false := blk_frozen BKb4.out 4))
  refine bodyPost_ret (results_cell_row rfl _ _ b4 58 #[.bool true, .bool false, .slice none 0 0, .float .f64 a, .float .f64 b] (0, 0) _ rfl (by refine blk_put (cs := #[.bool true, .bool false, .slice none 0 0, .float .f64 a, .float .f64 0]) ?_ 4 _ rfl; refine blk_put (cs := #[.bool true, .bool false, .slice none 0 0, .float .f64 0, .float .f64 0]) ?_ 3 _ rfl; refine blk_put (cs := #[.bool true, .bool false, .slice none 0 0, .float .f64 0, .float .f64 0]) ?_ 2 _ rfl; refine blk_put (cs := #[.bool true, .bool false, .slice none 0 0, .float .f64 0, .float .f64 0]) ?_ 1 _ rfl; refine blk_put (cs := #[.bool false, .bool false, .slice none 0 0, .float .f64 0, .float .f64 0]) ?_ 0 _ rfl; exact BKb4.out) Try.underlying58 rfl (by kernel_rfl)) rfl ?_
  exact ⟨rfl, below_set (below_set (below_set (below_set (below_set (HBW.out) (by have hZ := Z.out; omega)) (by have hZ := Z.out; omega)) (by have hZ := Z.out; omega)) (by have hZ := Z.out; omega)) (by have hZ := Z.out; omega)⟩
theorem ref_right {p s : Bool} {A : Option Addr} {c : Nat} {l : List Int} {a b : Nat} {rb : Bool} {w : World} (hr : Kd.C (Kd.int .u8) w A l.length l) (hc : l.length ≤ c) (h : lapidaryref02_Right.f s l = some rb) : Calls Try.prog 96 #[.agg #[.bool p, .bool s, .slice A l.length c, .float .f64 a, .float .f64 b]] w fun e w' => e = .returned (.bool (rightN p s l a b rb)) ∧ Below w.heap.size w w' := by
  have e0 : bitsN 0 = 0 := by decide +kernel
  cases p
  · cases rb
    · have hh := ref_Right.wn A c l a b s w hr hc h
      rw [show rightN false s l a b false = false from by unfold rightN; simp]
      exact hh
    · have hh := ref_Right.wy A c l a b s w hr hc h
      rw [show rightN false s l a b true = (bsame a 0 && bsame b 0) from by unfold rightN bsame; simp [e0]]
      exact hh
  · cases s
    · by_cases h0 : (l.length : Int) = 0
      · have hh := ref_Right.pf0 A c l a b h0 w hr hc
        rw [show rightN true false l a b rb = true from by have h9 : l.length = 0 := (by omega); unfold rightN; rw [if_pos rfl, h9]; rfl]
        exact hh
      · have hh := ref_Right.pf1 A c l a b h0 w hr hc
        rw [show rightN true false l a b rb = false from by have h9 : l.length ≠ 0 := (by omega); unfold rightN; rw [if_pos rfl, decide_eq_false h9]; rfl]
        exact hh
    · exact ref_Right.pt A c l a b w hr hc

end Go.Proofs.Ytfjbhccapgnkiaa.P
