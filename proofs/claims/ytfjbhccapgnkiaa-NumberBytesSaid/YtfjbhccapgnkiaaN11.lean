import Derived.Test.YtfjbhccapgnkiaaN0
import Derived.Test.YtfjbhccapgnkiaaV0
namespace Go.Proofs.Ytfjbhccapgnkiaa.P
open Go.RowKit Go.Proofs.YtfjbhccapgnkiaaW.PrintWords Go.Proofs.YtfjbhccapgnkiaaW.PrintLast Go.Proofs.YtfjbhccapgnkiaaW.PrintMore
attribute [local go_sem] max2_int min2_int max_two min_two max_three min_three max_four min_four
set_option linter.unusedVariables false
set_option linter.unusedSimpArgs false

attribute [local go_sem] stC stF
/-! ### lapidaryref06.bits, alike, Same; lapidarylaw06.taken -/
theorem nanB_q : nanB 9221120237041090561 = true := by decide +kernel
theorem bitsN_nan {x : Nat} (h : nanB x = true) : bitsN x = 9221120237041090561 := by unfold bitsN; rw [if_pos h]
theorem bitsN_num {x : Nat} (h : nanB x = false) : bitsN x = x := by unfold bitsN; rw [h]; rfl
/-- Are two floats alike, all that are no number being so? -/
def bsame (a b : Nat) : Bool := decide (bitsN a = bitsN b)
theorem bsame_ff {a b : Nat} (ha : nanB a = false) (hb : nanB b = false) : ((a : Int) == (b : Int)) = bsame a b := by
  unfold bsame
  rw [bitsN_num ha, bitsN_num hb]
  by_cases h : a = b
  · subst h; simp
  · rw [decide_eq_false h, beq_eq_false_iff_ne]; omega
theorem bsame_tf {a b : Nat} (ha : nanB a = true) (hb : nanB b = false) : false = bsame a b := by
  unfold bsame
  rw [bitsN_nan ha, bitsN_num hb, decide_eq_false]
  intro h
  rw [← h, nanB_q] at hb
  cases hb
theorem bsame_ft {a b : Nat} (ha : nanB a = false) (hb : nanB b = true) : false = bsame a b := by
  unfold bsame
  rw [bitsN_num ha, bitsN_nan hb, decide_eq_false]
  intro h
  rw [h, nanB_q] at ha
  cases ha
theorem bsame_tt {a b : Nat} (ha : nanB a = true) (hb : nanB b = true) : true = bsame a b := by
  unfold bsame
  rw [bitsN_nan ha, bitsN_nan hb]; rfl
set_option maxHeartbeats 4000000 in
set_option maxRecDepth 100000 in
theorem ref_bits.calls (a b : Nat) (w : World) : Calls Try.prog 124 #[.float .f64 a, .float .f64 b] w fun e w' => e = .returned (.bool (bsame a b)) ∧ Below w.heap.size w w' := by
  have h1 := fun b w => f64bits_run b w
  have HB := Aside0.mk (Below.refl w.heap.size w)
  cases ha : nanB a <;> cases hb : nanB b
  all_goals (
    have HA := Aside0.mk ha
    have HB2 := Aside0.mk hb
    have k1 := nan_eq a
    rw [ha] at k1
    have k2 := nan_eq b
    rw [hb] at k2
    clear ha hb
    go_enter Try.func124, Try.ntmps124
    go_wp2
    go_ret
    first
      | exact ⟨congrArg (fun q => Ending.returned (Value.bool q)) (bsame_ff HA.out HB2.out), HB.out⟩
      | exact ⟨congrArg (fun q => Ending.returned (Value.bool q)) (bsame_tf HA.out HB2.out), HB.out⟩
      | exact ⟨congrArg (fun q => Ending.returned (Value.bool q)) (bsame_ft HA.out HB2.out), HB.out⟩
      | exact ⟨congrArg (fun q => Ending.returned (Value.bool q)) (bsame_tt HA.out HB2.out), HB.out⟩)
set_option maxHeartbeats 16000000 in
set_option maxRecDepth 100000 in
theorem ref_alike.f (xp xs : Bool) (Ax : Option Addr) (nx cx : Nat) (xa xb : Nat) (yp ys : Bool) (Ay : Option Addr) (ny cy : Nat) (ya yb : Nat) (w : World) (h1 : bsame xa ya = false) :
    Calls Try.prog 98 #[.agg #[.bool xp, .bool xs, .slice Ax nx cx, .float .f64 xa, .float .f64 xb], .agg #[.bool yp, .bool ys, .slice Ay ny cy, .float .f64 ya, .float .f64 yb]] w fun e w' => e = .returned (.bool false) ∧ Below w.heap.size w w' := by
  have hu24 := Try.underlying24
  have hu25 := Try.underlying25
  have hu61 := Try.underlying61
  have hu58 := Try.underlying58
  have n_ := Aside0.mk h1
  clear h1
  have h1 := n_
  clear n_
  have HBW := Aside0.mk (Below.refl w.heap.size w)
  have Z := Aside0.mk (show w.heap.size ≤ w.heap.size from Nat.le_refl _)
  go_enter Try.func98, Try.ntmps98
  go_wp2_with (first
    | ((with_reducible refine gate_dst (N := 2) rfl ?_); (try (refine gate_guard (by rfl) ?_; dsimp only)); refine box_event ?hg (N := 2) ?hd (cs := #[.bool xp, .bool xs, .slice Ax nx cx, .float .f64 xa, .float .f64 xb]) (t := 58) ?hr ?_; (case hd => rfl); (case hg => rfl); (case hr => first | (go_simp; done) | (go_simp; rfl)); intro b2 hg wa1 hbox hb; have K_ := Kept.of_below hb (fun _ => False); replace Z := zA Z (K_.1); replace Z := zA Z (Nat.le_of_eq hg.symm); replace Z := zA Z (Nat.le_of_eq hg); replace Z := zA Z (blk_lt hbox); replace HBW := bS HBW hb; have BKb2 := Aside0.mk hbox; clear hb hbox hg K_; have zb20 : wa1.cell? ⟨b2, 0, none⟩ = some (.bool xp) := (blk_cell BKb2.out 0).trans rfl; have zb21 : wa1.cell? ⟨b2, 1, none⟩ = some (.bool xs) := (blk_cell BKb2.out 1).trans rfl; have zb22 : wa1.cell? ⟨b2, 2, none⟩ = some (.slice Ax nx cx) := (blk_cell BKb2.out 2).trans rfl; have zb23 : wa1.cell? ⟨b2, 3, none⟩ = some (.float .f64 xa) := (blk_cell BKb2.out 3).trans rfl; have zb24 : wa1.cell? ⟨b2, 4, none⟩ = some (.float .f64 xb) := (blk_cell BKb2.out 4).trans rfl)
    | ((with_reducible refine gate_dst (N := 3) rfl ?_); (try (refine gate_guard (by rfl) ?_; dsimp only)); refine box_event ?hg (N := 3) ?hd (cs := #[.bool yp, .bool ys, .slice Ay ny cy, .float .f64 ya, .float .f64 yb]) (t := 58) ?hr ?_; (case hd => rfl); (case hg => rfl); (case hr => first | (go_simp; done) | (go_simp; rfl)); intro b3 hg wa2 hbox hb; have K_ := Kept.of_below hb (fun _ => False); replace BKb2 := mvB BKb2 K_; replace Z := zA Z (K_.1); replace Z := zA Z (Nat.le_of_eq hg.symm); replace Z := zA Z (Nat.le_of_eq hg); replace Z := zA Z (blk_lt hbox); replace HBW := bS HBW hb; have BKb3 := Aside0.mk hbox; clear hb hbox hg K_; clear zb20 zb21 zb22 zb23 zb24; have zb20 : wa2.cell? ⟨b2, 0, none⟩ = some (.bool xp) := (blk_cell BKb2.out 0).trans rfl; have zb21 : wa2.cell? ⟨b2, 1, none⟩ = some (.bool xs) := (blk_cell BKb2.out 1).trans rfl; have zb22 : wa2.cell? ⟨b2, 2, none⟩ = some (.slice Ax nx cx) := (blk_cell BKb2.out 2).trans rfl; have zb23 : wa2.cell? ⟨b2, 3, none⟩ = some (.float .f64 xa) := (blk_cell BKb2.out 3).trans rfl; have zb24 : wa2.cell? ⟨b2, 4, none⟩ = some (.float .f64 xb) := (blk_cell BKb2.out 4).trans rfl; have zb30 : wa2.cell? ⟨b3, 0, none⟩ = some (.bool yp) := (blk_cell BKb3.out 0).trans rfl; have zb31 : wa2.cell? ⟨b3, 1, none⟩ = some (.bool ys) := (blk_cell BKb3.out 1).trans rfl; have zb32 : wa2.cell? ⟨b3, 2, none⟩ = some (.slice Ay ny cy) := (blk_cell BKb3.out 2).trans rfl; have zb33 : wa2.cell? ⟨b3, 3, none⟩ = some (.float .f64 ya) := (blk_cell BKb3.out 3).trans rfl; have zb34 : wa2.cell? ⟨b3, 4, none⟩ = some (.float .f64 yb) := (blk_cell BKb3.out 4).trans rfl)
    | ((with_reducible refine gate_dst (N := 9) rfl ?_); (try (refine gate_guard (by rfl) ?_; dsimp only)); refine goesL_ (some 9) rfl rfl Try.func124 (by kernel_rfl) rfl #[.float .f64 xa, .float .f64 ya] rfl (by (try simp only [List.map_toArray, List.map_cons, List.map_nil]); first | done | rfl | (simp only [List.length_drop, List.length_take]; rfl)) ?_; refine (ref_bits.calls xa ya _).mono ?_; rintro e wa3 ⟨rfl, hb⟩; rw [h1.out]; refine ⟨_, rfl, ?_⟩; have K_ := Kept.of_below hb (fun _ => False); replace BKb2 := mvB BKb2 K_; replace BKb3 := mvB BKb3 K_; replace Z := zA Z (K_.1); replace HBW := bS HBW hb; clear hb K_; clear zb20 zb21 zb22 zb23 zb24 zb30 zb31 zb32 zb33 zb34; have zb20 : wa3.cell? ⟨b2, 0, none⟩ = some (.bool xp) := (blk_cell BKb2.out 0).trans rfl; have zb21 : wa3.cell? ⟨b2, 1, none⟩ = some (.bool xs) := (blk_cell BKb2.out 1).trans rfl; have zb22 : wa3.cell? ⟨b2, 2, none⟩ = some (.slice Ax nx cx) := (blk_cell BKb2.out 2).trans rfl; have zb23 : wa3.cell? ⟨b2, 3, none⟩ = some (.float .f64 xa) := (blk_cell BKb2.out 3).trans rfl; have zb24 : wa3.cell? ⟨b2, 4, none⟩ = some (.float .f64 xb) := (blk_cell BKb2.out 4).trans rfl; have zb30 : wa3.cell? ⟨b3, 0, none⟩ = some (.bool yp) := (blk_cell BKb3.out 0).trans rfl; have zb31 : wa3.cell? ⟨b3, 1, none⟩ = some (.bool ys) := (blk_cell BKb3.out 1).trans rfl; have zb32 : wa3.cell? ⟨b3, 2, none⟩ = some (.slice Ay ny cy) := (blk_cell BKb3.out 2).trans rfl; have zb33 : wa3.cell? ⟨b3, 3, none⟩ = some (.float .f64 ya) := (blk_cell BKb3.out 3).trans rfl; have zb34 : wa3.cell? ⟨b3, 4, none⟩ = some (.float .f64 yb) := (blk_cell BKb3.out 4).trans rfl))
  go_ret
  exact ⟨rfl, HBW.out⟩
set_option maxHeartbeats 16000000 in
set_option maxRecDepth 100000 in
theorem ref_alike.t (xp xs : Bool) (Ax : Option Addr) (nx cx : Nat) (xa xb : Nat) (yp ys : Bool) (Ay : Option Addr) (ny cy : Nat) (ya yb : Nat) (w : World) (h1 : bsame xa ya = true) :
    Calls Try.prog 98 #[.agg #[.bool xp, .bool xs, .slice Ax nx cx, .float .f64 xa, .float .f64 xb], .agg #[.bool yp, .bool ys, .slice Ay ny cy, .float .f64 ya, .float .f64 yb]] w fun e w' => e = .returned (.bool (bsame xb yb)) ∧ Below w.heap.size w w' := by
  have hu24 := Try.underlying24
  have hu25 := Try.underlying25
  have hu61 := Try.underlying61
  have hu58 := Try.underlying58
  have n_ := Aside0.mk h1
  clear h1
  have h1 := n_
  clear n_
  have HBW := Aside0.mk (Below.refl w.heap.size w)
  have Z := Aside0.mk (show w.heap.size ≤ w.heap.size from Nat.le_refl _)
  go_enter Try.func98, Try.ntmps98
  go_wp2_with (first
    | ((with_reducible refine gate_dst (N := 2) rfl ?_); (try (refine gate_guard (by rfl) ?_; dsimp only)); refine box_event ?hg (N := 2) ?hd (cs := #[.bool xp, .bool xs, .slice Ax nx cx, .float .f64 xa, .float .f64 xb]) (t := 58) ?hr ?_; (case hd => rfl); (case hg => rfl); (case hr => first | (go_simp; done) | (go_simp; rfl)); intro b2 hg wa1 hbox hb; have K_ := Kept.of_below hb (fun _ => False); replace Z := zA Z (K_.1); replace Z := zA Z (Nat.le_of_eq hg.symm); replace Z := zA Z (Nat.le_of_eq hg); replace Z := zA Z (blk_lt hbox); replace HBW := bS HBW hb; have BKb2 := Aside0.mk hbox; clear hb hbox hg K_; have zb20 : wa1.cell? ⟨b2, 0, none⟩ = some (.bool xp) := (blk_cell BKb2.out 0).trans rfl; have zb21 : wa1.cell? ⟨b2, 1, none⟩ = some (.bool xs) := (blk_cell BKb2.out 1).trans rfl; have zb22 : wa1.cell? ⟨b2, 2, none⟩ = some (.slice Ax nx cx) := (blk_cell BKb2.out 2).trans rfl; have zb23 : wa1.cell? ⟨b2, 3, none⟩ = some (.float .f64 xa) := (blk_cell BKb2.out 3).trans rfl; have zb24 : wa1.cell? ⟨b2, 4, none⟩ = some (.float .f64 xb) := (blk_cell BKb2.out 4).trans rfl)
    | ((with_reducible refine gate_dst (N := 3) rfl ?_); (try (refine gate_guard (by rfl) ?_; dsimp only)); refine box_event ?hg (N := 3) ?hd (cs := #[.bool yp, .bool ys, .slice Ay ny cy, .float .f64 ya, .float .f64 yb]) (t := 58) ?hr ?_; (case hd => rfl); (case hg => rfl); (case hr => first | (go_simp; done) | (go_simp; rfl)); intro b3 hg wa2 hbox hb; have K_ := Kept.of_below hb (fun _ => False); replace BKb2 := mvB BKb2 K_; replace Z := zA Z (K_.1); replace Z := zA Z (Nat.le_of_eq hg.symm); replace Z := zA Z (Nat.le_of_eq hg); replace Z := zA Z (blk_lt hbox); replace HBW := bS HBW hb; have BKb3 := Aside0.mk hbox; clear hb hbox hg K_; clear zb20 zb21 zb22 zb23 zb24; have zb20 : wa2.cell? ⟨b2, 0, none⟩ = some (.bool xp) := (blk_cell BKb2.out 0).trans rfl; have zb21 : wa2.cell? ⟨b2, 1, none⟩ = some (.bool xs) := (blk_cell BKb2.out 1).trans rfl; have zb22 : wa2.cell? ⟨b2, 2, none⟩ = some (.slice Ax nx cx) := (blk_cell BKb2.out 2).trans rfl; have zb23 : wa2.cell? ⟨b2, 3, none⟩ = some (.float .f64 xa) := (blk_cell BKb2.out 3).trans rfl; have zb24 : wa2.cell? ⟨b2, 4, none⟩ = some (.float .f64 xb) := (blk_cell BKb2.out 4).trans rfl; have zb30 : wa2.cell? ⟨b3, 0, none⟩ = some (.bool yp) := (blk_cell BKb3.out 0).trans rfl; have zb31 : wa2.cell? ⟨b3, 1, none⟩ = some (.bool ys) := (blk_cell BKb3.out 1).trans rfl; have zb32 : wa2.cell? ⟨b3, 2, none⟩ = some (.slice Ay ny cy) := (blk_cell BKb3.out 2).trans rfl; have zb33 : wa2.cell? ⟨b3, 3, none⟩ = some (.float .f64 ya) := (blk_cell BKb3.out 3).trans rfl; have zb34 : wa2.cell? ⟨b3, 4, none⟩ = some (.float .f64 yb) := (blk_cell BKb3.out 4).trans rfl)
    | ((with_reducible refine gate_dst (N := 9) rfl ?_); (try (refine gate_guard (by rfl) ?_; dsimp only)); refine goesL_ (some 9) rfl rfl Try.func124 (by kernel_rfl) rfl #[.float .f64 xa, .float .f64 ya] rfl (by (try simp only [List.map_toArray, List.map_cons, List.map_nil]); first | done | rfl | (simp only [List.length_drop, List.length_take]; rfl)) ?_; refine (ref_bits.calls xa ya _).mono ?_; rintro e wa3 ⟨rfl, hb⟩; rw [h1.out]; refine ⟨_, rfl, ?_⟩; have K_ := Kept.of_below hb (fun _ => False); replace BKb2 := mvB BKb2 K_; replace BKb3 := mvB BKb3 K_; replace Z := zA Z (K_.1); replace HBW := bS HBW hb; clear hb K_; clear zb20 zb21 zb22 zb23 zb24 zb30 zb31 zb32 zb33 zb34; have zb20 : wa3.cell? ⟨b2, 0, none⟩ = some (.bool xp) := (blk_cell BKb2.out 0).trans rfl; have zb21 : wa3.cell? ⟨b2, 1, none⟩ = some (.bool xs) := (blk_cell BKb2.out 1).trans rfl; have zb22 : wa3.cell? ⟨b2, 2, none⟩ = some (.slice Ax nx cx) := (blk_cell BKb2.out 2).trans rfl; have zb23 : wa3.cell? ⟨b2, 3, none⟩ = some (.float .f64 xa) := (blk_cell BKb2.out 3).trans rfl; have zb24 : wa3.cell? ⟨b2, 4, none⟩ = some (.float .f64 xb) := (blk_cell BKb2.out 4).trans rfl; have zb30 : wa3.cell? ⟨b3, 0, none⟩ = some (.bool yp) := (blk_cell BKb3.out 0).trans rfl; have zb31 : wa3.cell? ⟨b3, 1, none⟩ = some (.bool ys) := (blk_cell BKb3.out 1).trans rfl; have zb32 : wa3.cell? ⟨b3, 2, none⟩ = some (.slice Ay ny cy) := (blk_cell BKb3.out 2).trans rfl; have zb33 : wa3.cell? ⟨b3, 3, none⟩ = some (.float .f64 ya) := (blk_cell BKb3.out 3).trans rfl; have zb34 : wa3.cell? ⟨b3, 4, none⟩ = some (.float .f64 yb) := (blk_cell BKb3.out 4).trans rfl)
    | ((with_reducible refine gate_dst (N := 15) rfl ?_); (try (refine gate_guard (by rfl) ?_; dsimp only)); refine goesL_ (some 15) rfl rfl Try.func124 (by kernel_rfl) rfl #[.float .f64 xb, .float .f64 yb] rfl (by (try simp only [List.map_toArray, List.map_cons, List.map_nil]); first | done | rfl | (simp only [List.length_drop, List.length_take]; rfl)) ?_; refine (ref_bits.calls xb yb _).mono ?_; rintro e wa4 ⟨rfl, hb⟩; refine ⟨_, rfl, ?_⟩; have K_ := Kept.of_below hb (fun _ => False); replace BKb2 := mvB BKb2 K_; replace BKb3 := mvB BKb3 K_; replace Z := zA Z (K_.1); replace HBW := bS HBW hb; clear hb K_; clear zb20 zb21 zb22 zb23 zb24 zb30 zb31 zb32 zb33 zb34; have zb20 : wa4.cell? ⟨b2, 0, none⟩ = some (.bool xp) := (blk_cell BKb2.out 0).trans rfl; have zb21 : wa4.cell? ⟨b2, 1, none⟩ = some (.bool xs) := (blk_cell BKb2.out 1).trans rfl; have zb22 : wa4.cell? ⟨b2, 2, none⟩ = some (.slice Ax nx cx) := (blk_cell BKb2.out 2).trans rfl; have zb23 : wa4.cell? ⟨b2, 3, none⟩ = some (.float .f64 xa) := (blk_cell BKb2.out 3).trans rfl; have zb24 : wa4.cell? ⟨b2, 4, none⟩ = some (.float .f64 xb) := (blk_cell BKb2.out 4).trans rfl; have zb30 : wa4.cell? ⟨b3, 0, none⟩ = some (.bool yp) := (blk_cell BKb3.out 0).trans rfl; have zb31 : wa4.cell? ⟨b3, 1, none⟩ = some (.bool ys) := (blk_cell BKb3.out 1).trans rfl; have zb32 : wa4.cell? ⟨b3, 2, none⟩ = some (.slice Ay ny cy) := (blk_cell BKb3.out 2).trans rfl; have zb33 : wa4.cell? ⟨b3, 3, none⟩ = some (.float .f64 ya) := (blk_cell BKb3.out 3).trans rfl; have zb34 : wa4.cell? ⟨b3, 4, none⟩ = some (.float .f64 yb) := (blk_cell BKb3.out 4).trans rfl))
  go_ret
  exact ⟨rfl, HBW.out⟩
theorem ref_alike.calls (xp xs : Bool) (Ax : Option Addr) (nx cx : Nat) (xa xb : Nat) (yp ys : Bool) (Ay : Option Addr) (ny cy : Nat) (ya yb : Nat) (w : World) : Calls Try.prog 98 #[.agg #[.bool xp, .bool xs, .slice Ax nx cx, .float .f64 xa, .float .f64 xb], .agg #[.bool yp, .bool ys, .slice Ay ny cy, .float .f64 ya, .float .f64 yb]] w fun e w' => e = .returned (.bool (bsame xa ya && bsame xb yb)) ∧ Below w.heap.size w w' := by
  cases h : bsame xa ya
  · exact ref_alike.f _ _ _ _ _ _ _ _ _ _ _ _ _ _ w h
  · exact ref_alike.t _ _ _ _ _ _ _ _ _ _ _ _ _ _ w h
set_option maxHeartbeats 16000000 in
set_option maxRecDepth 100000 in
theorem ref_Same.t (p s : Bool) (l : List Int) (Ax : Option Addr) (cx : Nat) (xa xb : Nat) (Ay : Option Addr) (cy : Nat) (ya yb : Nat) (w : World) (hrx : Kd.C (Kd.int .u8) w Ax l.length l) (hcx : l.length ≤ cx) (hry : Kd.C (Kd.int .u8) w Ay l.length l) (hcy : l.length ≤ cy) (h1 : bsame xa ya = true) (h2 : bsame xb yb = true) :
    Calls Try.prog 54 #[.agg #[.bool p, .bool s, .slice Ax l.length cx, .float .f64 xa, .float .f64 xb], .agg #[.bool p, .bool s, .slice Ay l.length cy, .float .f64 ya, .float .f64 yb]] w fun e w' => e = .returned (.bool true) ∧ Below w.heap.size w w' := by
  have hu24 := Try.underlying24
  have hu25 := Try.underlying25
  have hu61 := Try.underlying61
  have hu58 := Try.underlying58
  have n_ := Aside0.mk hrx
  clear hrx
  have hrx := n_
  clear n_
  have n_ := Aside0.mk hcx
  clear hcx
  have hcx := n_
  clear n_
  have n_ := Aside0.mk hry
  clear hry
  have hry := n_
  clear n_
  have n_ := Aside0.mk hcy
  clear hcy
  have hcy := n_
  clear n_
  have n_ := Aside0.mk h1
  clear h1
  have h1 := n_
  clear n_
  have n_ := Aside0.mk h2
  clear h2
  have h2 := n_
  clear n_
  have HBW := Aside0.mk (Below.refl w.heap.size w)
  have Z := Aside0.mk (show w.heap.size ≤ w.heap.size from Nat.le_refl _)
  go_enter Try.func54, Try.ntmps54
  go_wp2_with (first
    | ((with_reducible refine gate_dst (N := 2) rfl ?_); (try (refine gate_guard (by rfl) ?_; dsimp only)); refine box_event ?hg (N := 2) ?hd (cs := #[.bool p, .bool s, .slice Ax l.length cx, .float .f64 xa, .float .f64 xb]) (t := 58) ?hr ?_; (case hd => rfl); (case hg => rfl); (case hr => first | (go_simp; done) | (go_simp; rfl)); intro b2 hg wa1 hbox hb; have K_ := Kept.of_below hb (fun _ => False); replace Z := zA Z (K_.1); replace Z := zA Z (Nat.le_of_eq hg.symm); replace Z := zA Z (Nat.le_of_eq hg); replace Z := zA Z (blk_lt hbox); replace HBW := bS HBW hb; have BKb2 := Aside0.mk hbox; clear hb hbox hg K_; have zb20 : wa1.cell? ⟨b2, 0, none⟩ = some (.bool p) := (blk_cell BKb2.out 0).trans rfl; have zb21 : wa1.cell? ⟨b2, 1, none⟩ = some (.bool s) := (blk_cell BKb2.out 1).trans rfl; have zb22 : wa1.cell? ⟨b2, 2, none⟩ = some (.slice Ax l.length cx) := (blk_cell BKb2.out 2).trans rfl; have zb23 : wa1.cell? ⟨b2, 3, none⟩ = some (.float .f64 xa) := (blk_cell BKb2.out 3).trans rfl; have zb24 : wa1.cell? ⟨b2, 4, none⟩ = some (.float .f64 xb) := (blk_cell BKb2.out 4).trans rfl)
    | ((with_reducible refine gate_dst (N := 3) rfl ?_); (try (refine gate_guard (by rfl) ?_; dsimp only)); refine box_event ?hg (N := 3) ?hd (cs := #[.bool p, .bool s, .slice Ay l.length cy, .float .f64 ya, .float .f64 yb]) (t := 58) ?hr ?_; (case hd => rfl); (case hg => rfl); (case hr => first | (go_simp; done) | (go_simp; rfl)); intro b3 hg wa2 hbox hb; have K_ := Kept.of_below hb (fun _ => False); replace BKb2 := mvB BKb2 K_; replace Z := zA Z (K_.1); replace Z := zA Z (Nat.le_of_eq hg.symm); replace Z := zA Z (Nat.le_of_eq hg); replace Z := zA Z (blk_lt hbox); replace HBW := bS HBW hb; have BKb3 := Aside0.mk hbox; clear hb hbox hg K_; clear zb20 zb21 zb22 zb23 zb24; have zb20 : wa2.cell? ⟨b2, 0, none⟩ = some (.bool p) := (blk_cell BKb2.out 0).trans rfl; have zb21 : wa2.cell? ⟨b2, 1, none⟩ = some (.bool s) := (blk_cell BKb2.out 1).trans rfl; have zb22 : wa2.cell? ⟨b2, 2, none⟩ = some (.slice Ax l.length cx) := (blk_cell BKb2.out 2).trans rfl; have zb23 : wa2.cell? ⟨b2, 3, none⟩ = some (.float .f64 xa) := (blk_cell BKb2.out 3).trans rfl; have zb24 : wa2.cell? ⟨b2, 4, none⟩ = some (.float .f64 xb) := (blk_cell BKb2.out 4).trans rfl; have zb30 : wa2.cell? ⟨b3, 0, none⟩ = some (.bool p) := (blk_cell BKb3.out 0).trans rfl; have zb31 : wa2.cell? ⟨b3, 1, none⟩ = some (.bool s) := (blk_cell BKb3.out 1).trans rfl; have zb32 : wa2.cell? ⟨b3, 2, none⟩ = some (.slice Ay l.length cy) := (blk_cell BKb3.out 2).trans rfl; have zb33 : wa2.cell? ⟨b3, 3, none⟩ = some (.float .f64 ya) := (blk_cell BKb3.out 3).trans rfl; have zb34 : wa2.cell? ⟨b3, 4, none⟩ = some (.float .f64 yb) := (blk_cell BKb3.out 4).trans rfl)
    | ((with_reducible refine gate_dst (N := 15) rfl ?_); (try (refine gate_guard (by rfl) ?_; dsimp only)); refine goesL_ (some 15) rfl rfl Try.func35 (by kernel_rfl) rfl #[.agg #[.bool s, .slice Ax l.length cx], .agg #[.bool s, .slice Ay l.length cy]] rfl (by (try simp only [List.map_toArray, List.map_cons, List.map_nil]); first | done | rfl | (simp only [List.length_drop, List.length_take]; rfl)) ?_; refine (lapidaryref02_Same.calls s Ax cx l s Ay cy l true _ (Kd.C_below hrx.out HBW.out) hcx.out (Kd.C_below hry.out HBW.out) hcy.out (same_true s l)).mono ?_; rintro e wa3 ⟨rfl, hb⟩; refine ⟨_, rfl, ?_⟩; have K_ := Kept.of_below hb (fun _ => False); replace BKb2 := mvB BKb2 K_; replace BKb3 := mvB BKb3 K_; replace Z := zA Z (K_.1); replace HBW := bS HBW hb; clear hb K_; clear zb20 zb21 zb22 zb23 zb24 zb30 zb31 zb32 zb33 zb34; have zb20 : wa3.cell? ⟨b2, 0, none⟩ = some (.bool p) := (blk_cell BKb2.out 0).trans rfl; have zb21 : wa3.cell? ⟨b2, 1, none⟩ = some (.bool s) := (blk_cell BKb2.out 1).trans rfl; have zb22 : wa3.cell? ⟨b2, 2, none⟩ = some (.slice Ax l.length cx) := (blk_cell BKb2.out 2).trans rfl; have zb23 : wa3.cell? ⟨b2, 3, none⟩ = some (.float .f64 xa) := (blk_cell BKb2.out 3).trans rfl; have zb24 : wa3.cell? ⟨b2, 4, none⟩ = some (.float .f64 xb) := (blk_cell BKb2.out 4).trans rfl; have zb30 : wa3.cell? ⟨b3, 0, none⟩ = some (.bool p) := (blk_cell BKb3.out 0).trans rfl; have zb31 : wa3.cell? ⟨b3, 1, none⟩ = some (.bool s) := (blk_cell BKb3.out 1).trans rfl; have zb32 : wa3.cell? ⟨b3, 2, none⟩ = some (.slice Ay l.length cy) := (blk_cell BKb3.out 2).trans rfl; have zb33 : wa3.cell? ⟨b3, 3, none⟩ = some (.float .f64 ya) := (blk_cell BKb3.out 3).trans rfl; have zb34 : wa3.cell? ⟨b3, 4, none⟩ = some (.float .f64 yb) := (blk_cell BKb3.out 4).trans rfl)
    | ((with_reducible refine gate_dst (N := 20) rfl ?_); (try (refine gate_guard (by rfl) ?_; dsimp only)); refine goesL_ (some 20) rfl rfl Try.func98 (by kernel_rfl) rfl #[.agg #[.bool p, .bool s, .slice Ax l.length cx, .float .f64 xa, .float .f64 xb], .agg #[.bool p, .bool s, .slice Ay l.length cy, .float .f64 ya, .float .f64 yb]] rfl (by (try simp only [List.map_toArray, List.map_cons, List.map_nil]); first | done | rfl | (simp only [List.length_drop, List.length_take]; rfl)) ?_; refine (ref_alike.t p s Ax l.length cx xa xb p s Ay l.length cy ya yb _ h1.out).mono ?_; rintro e wa4 ⟨rfl, hb⟩; rw [h2.out]; refine ⟨_, rfl, ?_⟩; have K_ := Kept.of_below hb (fun _ => False); replace BKb2 := mvB BKb2 K_; replace BKb3 := mvB BKb3 K_; replace Z := zA Z (K_.1); replace HBW := bS HBW hb; clear hb K_; clear zb20 zb21 zb22 zb23 zb24 zb30 zb31 zb32 zb33 zb34; have zb20 : wa4.cell? ⟨b2, 0, none⟩ = some (.bool p) := (blk_cell BKb2.out 0).trans rfl; have zb21 : wa4.cell? ⟨b2, 1, none⟩ = some (.bool s) := (blk_cell BKb2.out 1).trans rfl; have zb22 : wa4.cell? ⟨b2, 2, none⟩ = some (.slice Ax l.length cx) := (blk_cell BKb2.out 2).trans rfl; have zb23 : wa4.cell? ⟨b2, 3, none⟩ = some (.float .f64 xa) := (blk_cell BKb2.out 3).trans rfl; have zb24 : wa4.cell? ⟨b2, 4, none⟩ = some (.float .f64 xb) := (blk_cell BKb2.out 4).trans rfl; have zb30 : wa4.cell? ⟨b3, 0, none⟩ = some (.bool p) := (blk_cell BKb3.out 0).trans rfl; have zb31 : wa4.cell? ⟨b3, 1, none⟩ = some (.bool s) := (blk_cell BKb3.out 1).trans rfl; have zb32 : wa4.cell? ⟨b3, 2, none⟩ = some (.slice Ay l.length cy) := (blk_cell BKb3.out 2).trans rfl; have zb33 : wa4.cell? ⟨b3, 3, none⟩ = some (.float .f64 ya) := (blk_cell BKb3.out 3).trans rfl; have zb34 : wa4.cell? ⟨b3, 4, none⟩ = some (.float .f64 yb) := (blk_cell BKb3.out 4).trans rfl))
  go_ret
  exact ⟨rfl, HBW.out⟩
set_option maxHeartbeats 16000000 in
set_option maxRecDepth 100000 in
theorem law_taken6 (p s : Bool) (A : Option Addr) (n c : Nat) (a b : Nat) (w : World) :
    Calls Try.prog 55 #[.agg #[.bool p, .bool s, .slice A n c, .complex .f64 a b]] w fun e w' => e = .returned (.agg #[.bool p, .bool s, .slice A n c, .float .f64 a, .float .f64 b]) ∧ Below w.heap.size w w' := by
  have hu24 := Try.underlying24
  have hu25 := Try.underlying25
  have hu61 := Try.underlying61
  have hu58 := Try.underlying58
  have HBW := Aside0.mk (Below.refl w.heap.size w)
  have Z := Aside0.mk (show w.heap.size ≤ w.heap.size from Nat.le_refl _)
  go_enter Try.func55, Try.ntmps55
  go_wp2_with (first
    | ((with_reducible refine gate_dst (N := 1) rfl ?_); (try (refine gate_guard (by rfl) ?_; dsimp only)); refine box_event ?hg (N := 1) ?hd (cs := #[.bool p, .bool s, .slice A n c, .complex .f64 a b]) (t := 61) ?hr ?_; (case hd => rfl); (case hg => rfl); (case hr => first | (go_simp; done) | (go_simp; rfl)); intro b1 hg wa1 hbox hb; have K_ := Kept.of_below hb (fun _ => False); replace Z := zA Z (K_.1); replace Z := zA Z (Nat.le_of_eq hg.symm); replace Z := zA Z (Nat.le_of_eq hg); replace Z := zA Z (blk_lt hbox); replace HBW := bS HBW hb; have BKb1 := Aside0.mk hbox; clear hb hbox hg K_; have zb10 : wa1.cell? ⟨b1, 0, none⟩ = some (.bool p) := (blk_cell BKb1.out 0).trans rfl; have zb11 : wa1.cell? ⟨b1, 1, none⟩ = some (.bool s) := (blk_cell BKb1.out 1).trans rfl; have zb12 : wa1.cell? ⟨b1, 2, none⟩ = some (.slice A n c) := (blk_cell BKb1.out 2).trans rfl; have zb13 : wa1.cell? ⟨b1, 3, none⟩ = some (.complex .f64 a b) := (blk_cell BKb1.out 3).trans rfl)
    | ((with_reducible refine gate_dst (N := 2) rfl ?_); (try (refine gate_guard (by rfl) ?_; dsimp only)); refine box_event ?hg (N := 2) ?hd (cs := #[.bool false, .bool false, .slice none 0 0, .float .f64 0, .float .f64 0]) (t := 58) ?hr ?_; (case hd => rfl); (case hg => rfl); (case hr => first | (go_simp; done) | (go_simp; rfl)); intro b2 hg wa2 hbox hb; have K_ := Kept.of_below hb (fun _ => False); replace BKb1 := mvB BKb1 K_; replace Z := zA Z (K_.1); replace Z := zA Z (Nat.le_of_eq hg.symm); replace Z := zA Z (Nat.le_of_eq hg); replace Z := zA Z (blk_lt hbox); replace HBW := bS HBW hb; have BKb2 := Aside0.mk hbox; clear hb hbox hg K_; clear zb10 zb11 zb12 zb13; have zb10 : wa2.cell? ⟨b1, 0, none⟩ = some (.bool p) := (blk_cell BKb1.out 0).trans rfl; have zb11 : wa2.cell? ⟨b1, 1, none⟩ = some (.bool s) := (blk_cell BKb1.out 1).trans rfl; have zb12 : wa2.cell? ⟨b1, 2, none⟩ = some (.slice A n c) := (blk_cell BKb1.out 2).trans rfl; have zb13 : wa2.cell? ⟨b1, 3, none⟩ = some (.complex .f64 a b) := (blk_cell BKb1.out 3).trans rfl; have zb20 : wa2.cell? ⟨b2, 0, none⟩ = some (.bool false) := (blk_cell BKb2.out 0).trans rfl; have zb21 : wa2.cell? ⟨b2, 1, none⟩ = some (.bool false) := (blk_cell BKb2.out 1).trans rfl; have zb22 : wa2.cell? ⟨b2, 2, none⟩ = some (.slice none 0 0) := (blk_cell BKb2.out 2).trans rfl; have zb23 : wa2.cell? ⟨b2, 3, none⟩ = some (.float .f64 0) := (blk_cell BKb2.out 3).trans rfl; have zb24 : wa2.cell? ⟨b2, 4, none⟩ = some (.float .f64 0) := (blk_cell BKb2.out 4).trans rfl; have fb20 : wa2.frozen? ⟨b2, 0, none⟩ = false := blk_frozen BKb2.out 0; have fb21 : wa2.frozen? ⟨b2, 1, none⟩ = false := blk_frozen BKb2.out 1; have fb22 : wa2.frozen? ⟨b2, 2, none⟩ = false := blk_frozen BKb2.out 2; have fb23 : wa2.frozen? ⟨b2, 3, none⟩ = false := blk_frozen BKb2.out 3; have fb24 : wa2.frozen? ⟨b2, 4, none⟩ = false := blk_frozen BKb2.out 4; have nb2b1 : b2 ≠ b1 := (by have hZ := Z.out; omega); have nb1b2 := nb2b1.symm))
  refine bodyPost_ret (results_cell_row rfl _ _ b2 58 #[.bool p, .bool s, .slice A n c, .float .f64 a, .float .f64 b] (0, 0) _ rfl (by refine blk_put (cs := #[.bool p, .bool s, .slice A n c, .float .f64 a, .float .f64 0]) ?_ 4 _ rfl; refine blk_put (cs := #[.bool p, .bool s, .slice A n c, .float .f64 0, .float .f64 0]) ?_ 3 _ rfl; refine blk_put (cs := #[.bool p, .bool s, .slice none 0 0, .float .f64 0, .float .f64 0]) ?_ 2 _ rfl; refine blk_put (cs := #[.bool p, .bool false, .slice none 0 0, .float .f64 0, .float .f64 0]) ?_ 1 _ rfl; refine blk_put (cs := #[.bool false, .bool false, .slice none 0 0, .float .f64 0, .float .f64 0]) ?_ 0 _ rfl; exact BKb2.out) Try.underlying58 rfl (by kernel_rfl)) rfl ?_
  exact ⟨rfl, below_set (below_set (below_set (below_set (below_set (HBW.out) (by have hZ := Z.out; omega)) (by have hZ := Z.out; omega)) (by have hZ := Z.out; omega)) (by have hZ := Z.out; omega)) (by have hZ := Z.out; omega)⟩

end Go.Proofs.Ytfjbhccapgnkiaa.P
