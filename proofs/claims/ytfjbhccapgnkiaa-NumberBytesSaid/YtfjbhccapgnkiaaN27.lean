import Derived.Test.YtfjbhccapgnkiaaN26
namespace Go.Proofs.Ytfjbhccapgnkiaa.P
open Go.RowKit Go.Proofs.YtfjbhccapgnkiaaW.PrintWords Go.Proofs.YtfjbhccapgnkiaaW.PrintLast Go.Proofs.YtfjbhccapgnkiaaW.PrintMore
attribute [local go_sem] max2_int min2_int max_two min_two max_three min_three max_four min_four
set_option linter.unusedVariables false
set_option linter.unusedSimpArgs false

attribute [local go_sem] stC stF
/-! ### number.Get: what is refused -/
set_option maxHeartbeats 16000000 in
set_option maxRecDepth 100000 in
theorem number_Get.nil (A : Option Addr) (c : Nat) (w : World) :
    Calls Try.prog 64 #[.slice A 0 c] w fun e w' => e = .returned (.tuple #[.agg #[.bool false, .bool false, .slice none 0 0, .complex .f64 0 0], .int .i64 11]) ∧ Below w.heap.size w w' := by
  have hu24 := Try.underlying24
  have hu25 := Try.underlying25
  have hu61 := Try.underlying61
  have HBW := Aside0.mk (Below.refl w.heap.size w)
  have Z := Aside0.mk (show w.heap.size ≤ w.heap.size from Nat.le_refl _)
  go_enter Try.func64, Try.ntmps64
  go_wp2_with (first
    | ((with_reducible refine gate_dst (N := 2) rfl ?_); (try (refine gate_guard (by rfl) ?_; dsimp only)); refine box_event ?hg (N := 2) ?hd (cs := #[.bool false, .bool false, .slice none 0 0, .complex .f64 0 0]) (t := 61) ?hr ?_; (case hd => rfl); (case hg => rfl); (case hr => first | (go_simp; done) | (go_simp; rfl)); intro b2 hg wa1 hbox hb; have K_ := Kept.of_below hb (fun _ => False); replace Z := zA Z (K_.1); replace Z := zA Z (Nat.le_of_eq hg.symm); replace Z := zA Z (Nat.le_of_eq hg); replace Z := zA Z (blk_lt hbox); replace HBW := bS HBW hb; have BKb2 := Aside0.mk hbox; clear hb hbox hg K_; have zb20 : wa1.cell? ⟨b2, 0, none⟩ = some (.bool false) := (blk_cell BKb2.out 0).trans rfl; have zb21 : wa1.cell? ⟨b2, 1, none⟩ = some (.bool false) := (blk_cell BKb2.out 1).trans rfl; have zb22 : wa1.cell? ⟨b2, 2, none⟩ = some (.slice none 0 0) := (blk_cell BKb2.out 2).trans rfl; have zb23 : wa1.cell? ⟨b2, 3, none⟩ = some (.complex .f64 0 0) := (blk_cell BKb2.out 3).trans rfl; have fb20 : wa1.frozen? ⟨b2, 0, none⟩ = false := blk_frozen BKb2.out 0; have fb21 : wa1.frozen? ⟨b2, 1, none⟩ = false := blk_frozen BKb2.out 1; have fb22 : wa1.frozen? ⟨b2, 2, none⟩ = false := blk_frozen BKb2.out 2; have fb23 : wa1.frozen? ⟨b2, 3, none⟩ = false := blk_frozen BKb2.out 3))
  refine bodyPost_ret (results_ct3 rfl _ _ b2 61 #[.bool false, .bool false, .slice none 0 0, .complex .f64 0 0] (0, 0) _ rfl (by refine blk_put (cs := #[.bool false, .bool false, .slice none 0 0, .complex .f64 0 0]) ?_ 3 _ rfl; refine blk_put (cs := #[.bool false, .bool false, .slice none 0 0, .complex .f64 0 0]) ?_ 2 _ rfl; refine blk_put (cs := #[.bool false, .bool false, .slice none 0 0, .complex .f64 0 0]) ?_ 1 _ rfl; refine blk_put (cs := #[.bool false, .bool false, .slice none 0 0, .complex .f64 0 0]) ?_ 0 _ rfl; exact BKb2.out) Try.underlying61 rfl (by kernel_rfl)) rfl ?_
  exact ⟨rfl, below_set (below_set (below_set (below_set (HBW.out) (by have hZ := Z.out; omega)) (by have hZ := Z.out; omega)) (by have hZ := Z.out; omega)) (by have hZ := Z.out; omega)⟩
set_option maxHeartbeats 16000000 in
set_option maxRecDepth 100000 in
theorem number_Get.big (ad : Addr) (n c : Nat) (v : Int) (hn : ¬ ((n : Int) = 0)) (hv : 2 < v) (w : World) (hx : w.cell? ad = some (.int .u8 v)) :
    Calls Try.prog 64 #[.slice (some ad) n c] w fun e w' => e = .returned (.tuple #[.agg #[.bool false, .bool false, .slice none 0 0, .complex .f64 0 0], .int .i64 11]) ∧ Below w.heap.size w w' := by
  have hu24 := Try.underlying24
  have hu25 := Try.underlying25
  have hu61 := Try.underlying61
  have hn0 : ((n : Int) == 0) = false := beq_eq_false_iff_ne.2 hn
  have HN := Aside0.mk (show 0 < n from by omega)
  clear hn
  have hl0 := Aside0.mk (World.block_lt_of_cell? w _ hx)
  have n_ := Aside0.mk hx
  clear hx
  have hx := n_
  clear n_
  have HBW := Aside0.mk (Below.refl w.heap.size w)
  have Z := Aside0.mk (show w.heap.size ≤ w.heap.size from Nat.le_refl _)
  go_enter Try.func64, Try.ntmps64
  go_wp2_with (first
    | ((with_reducible refine gate_dst (N := 2) rfl ?_); (try (refine gate_guard (by rfl) ?_; dsimp only)); refine box_event ?hg (N := 2) ?hd (cs := #[.bool false, .bool false, .slice none 0 0, .complex .f64 0 0]) (t := 61) ?hr ?_; (case hd => rfl); (case hg => rfl); (case hr => first | (go_simp; done) | (go_simp; rfl)); intro b2 hg wa1 hbox hb; have K_ := Kept.of_below hb (fun _ => False); replace Z := zA Z (K_.1); replace Z := zA Z (Nat.le_of_eq hg.symm); replace Z := zA Z (Nat.le_of_eq hg); replace Z := zA Z (blk_lt hbox); replace HBW := bS HBW hb; have BKb2 := Aside0.mk hbox; clear hb hbox hg K_; have zb20 : wa1.cell? ⟨b2, 0, none⟩ = some (.bool false) := (blk_cell BKb2.out 0).trans rfl; have zb21 : wa1.cell? ⟨b2, 1, none⟩ = some (.bool false) := (blk_cell BKb2.out 1).trans rfl; have zb22 : wa1.cell? ⟨b2, 2, none⟩ = some (.slice none 0 0) := (blk_cell BKb2.out 2).trans rfl; have zb23 : wa1.cell? ⟨b2, 3, none⟩ = some (.complex .f64 0 0) := (blk_cell BKb2.out 3).trans rfl; have fb20 : wa1.frozen? ⟨b2, 0, none⟩ = false := blk_frozen BKb2.out 0; have fb21 : wa1.frozen? ⟨b2, 1, none⟩ = false := blk_frozen BKb2.out 1; have fb22 : wa1.frozen? ⟨b2, 2, none⟩ = false := blk_frozen BKb2.out 2; have fb23 : wa1.frozen? ⟨b2, 3, none⟩ = false := blk_frozen BKb2.out 3; have hx1 : wa1.cell? ad = some (.int .u8 v) := (HBW.out.cell hl0.out).trans hx.out; have hn1 := HN.out))
  refine bodyPost_ret (results_ct3 rfl _ _ b2 61 #[.bool false, .bool false, .slice none 0 0, .complex .f64 0 0] (0, 0) _ rfl (by refine blk_put (cs := #[.bool false, .bool false, .slice none 0 0, .complex .f64 0 0]) ?_ 3 _ rfl; refine blk_put (cs := #[.bool false, .bool false, .slice none 0 0, .complex .f64 0 0]) ?_ 2 _ rfl; refine blk_put (cs := #[.bool false, .bool false, .slice none 0 0, .complex .f64 0 0]) ?_ 1 _ rfl; refine blk_put (cs := #[.bool false, .bool false, .slice none 0 0, .complex .f64 0 0]) ?_ 0 _ rfl; exact BKb2.out) Try.underlying61 rfl (by kernel_rfl)) rfl ?_
  exact ⟨rfl, below_set (below_set (below_set (below_set (HBW.out) (by have hZ := Z.out; omega)) (by have hZ := Z.out; omega)) (by have hZ := Z.out; omega)) (by have hZ := Z.out; omega)⟩
set_option maxHeartbeats 16000000 in
set_option maxRecDepth 100000 in
theorem number_Get.two (ad : Addr) (n c : Nat) (v : Int) (hn : ¬ ((n : Int) = 0)) (hv : v = 2) (h17 : ¬ ((n : Int) = 17)) (w : World) (hx : w.cell? ad = some (.int .u8 v)) :
    Calls Try.prog 64 #[.slice (some ad) n c] w fun e w' => e = .returned (.tuple #[.agg #[.bool false, .bool false, .slice none 0 0, .complex .f64 0 0], .int .i64 11]) ∧ Below w.heap.size w w' := by
  have hu24 := Try.underlying24
  have hu25 := Try.underlying25
  have hu61 := Try.underlying61
  have hn0 : ((n : Int) == 0) = false := beq_eq_false_iff_ne.2 hn
  have HN := Aside0.mk (show 0 < n from by omega)
  subst hv
  have h17b : ((n : Int) != 17) = true := by simpa using h17
  clear h17
  clear hn
  have hl0 := Aside0.mk (World.block_lt_of_cell? w _ hx)
  have n_ := Aside0.mk hx
  clear hx
  have hx := n_
  clear n_
  have HBW := Aside0.mk (Below.refl w.heap.size w)
  have Z := Aside0.mk (show w.heap.size ≤ w.heap.size from Nat.le_refl _)
  go_enter Try.func64, Try.ntmps64
  go_wp2_with (first
    | ((with_reducible refine gate_dst (N := 2) rfl ?_); (try (refine gate_guard (by rfl) ?_; dsimp only)); refine box_event ?hg (N := 2) ?hd (cs := #[.bool false, .bool false, .slice none 0 0, .complex .f64 0 0]) (t := 61) ?hr ?_; (case hd => rfl); (case hg => rfl); (case hr => first | (go_simp; done) | (go_simp; rfl)); intro b2 hg wa1 hbox hb; have K_ := Kept.of_below hb (fun _ => False); replace Z := zA Z (K_.1); replace Z := zA Z (Nat.le_of_eq hg.symm); replace Z := zA Z (Nat.le_of_eq hg); replace Z := zA Z (blk_lt hbox); replace HBW := bS HBW hb; have BKb2 := Aside0.mk hbox; clear hb hbox hg K_; have zb20 : wa1.cell? ⟨b2, 0, none⟩ = some (.bool false) := (blk_cell BKb2.out 0).trans rfl; have zb21 : wa1.cell? ⟨b2, 1, none⟩ = some (.bool false) := (blk_cell BKb2.out 1).trans rfl; have zb22 : wa1.cell? ⟨b2, 2, none⟩ = some (.slice none 0 0) := (blk_cell BKb2.out 2).trans rfl; have zb23 : wa1.cell? ⟨b2, 3, none⟩ = some (.complex .f64 0 0) := (blk_cell BKb2.out 3).trans rfl; have fb20 : wa1.frozen? ⟨b2, 0, none⟩ = false := blk_frozen BKb2.out 0; have fb21 : wa1.frozen? ⟨b2, 1, none⟩ = false := blk_frozen BKb2.out 1; have fb22 : wa1.frozen? ⟨b2, 2, none⟩ = false := blk_frozen BKb2.out 2; have fb23 : wa1.frozen? ⟨b2, 3, none⟩ = false := blk_frozen BKb2.out 3; have hx1 : wa1.cell? ad = some (.int .u8 2) := (HBW.out.cell hl0.out).trans hx.out; have hn1 := HN.out))
  refine bodyPost_ret (results_ct3 rfl _ _ b2 61 #[.bool false, .bool false, .slice none 0 0, .complex .f64 0 0] (0, 0) _ rfl (by refine blk_put (cs := #[.bool false, .bool false, .slice none 0 0, .complex .f64 0 0]) ?_ 3 _ rfl; refine blk_put (cs := #[.bool false, .bool false, .slice none 0 0, .complex .f64 0 0]) ?_ 2 _ rfl; refine blk_put (cs := #[.bool false, .bool false, .slice none 0 0, .complex .f64 0 0]) ?_ 1 _ rfl; refine blk_put (cs := #[.bool false, .bool false, .slice none 0 0, .complex .f64 0 0]) ?_ 0 _ rfl; exact BKb2.out) Try.underlying61 rfl (by kernel_rfl)) rfl ?_
  exact ⟨rfl, below_set (below_set (below_set (below_set (HBW.out) (by have hZ := Z.out; omega)) (by have hZ := Z.out; omega)) (by have hZ := Z.out; omega)) (by have hZ := Z.out; omega)⟩
set_option maxHeartbeats 16000000 in
set_option maxRecDepth 100000 in
theorem number_Get.pair (ad : Addr) (c : Nat) (l t : List Int) (h0 : rd l 0 = 2) (ht : t = l.drop 1) (w : World) (hr : Kd.C (Kd.int .u8) w (some ad) l.length l) (hc : l.length ≤ c) (hl : l.length = 17) (hb : ∀ x ∈ l, 0 ≤ x ∧ x < 256) :
    Calls Try.prog 64 #[.slice (some ad) l.length c] w fun e w' => e = .returned (.tuple #[.agg #[.bool true, .bool false, .slice none 0 0, .complex .f64 (w8 t 0 8).toNat (w8 t 8 8).toNat], .int .i64 0]) ∧ Below w.heap.size w w' := by
  have hu24 := Try.underlying24
  have hu25 := Try.underlying25
  have hu61 := Try.underlying61
  obtain ⟨ad_, e_, hx⟩ := first_byte hr (by omega)
  cases e_
  rw [h0] at hx
  have hx := Aside0.mk hx
  clear h0
  obtain ⟨A1, hcut, hrt⟩ := cut1 hr (by omega) hc
  rw [← ht] at hrt
  have hrt := Aside0.mk hrt
  have hl0 := Aside0.mk (World.block_lt_of_cell? w _ hx.out)
  rw [hl] at hcut ⊢
  have HT16 := Aside0.mk (show t.length = 16 from by rw [ht, List.length_drop, hl])
  have hbt := Aside0.mk (show ∀ x ∈ t, 0 ≤ x ∧ x < 256 from fun x hx => hb x (List.mem_of_mem_drop (by rw [← ht]; exact hx)))
  clear ht
  have n_ := Aside0.mk hr
  clear hr
  have hr := n_
  clear n_
  have n_ := Aside0.mk hc
  clear hc
  have hc := n_
  clear n_
  have n_ := Aside0.mk hl
  clear hl
  have hl := n_
  clear n_
  have n_ := Aside0.mk hb
  clear hb
  have hb := n_
  clear n_
  have HBW := Aside0.mk (Below.refl w.heap.size w)
  have Z := Aside0.mk (show w.heap.size ≤ w.heap.size from Nat.le_refl _)
  go_enter Try.func64, Try.ntmps64
  go_wp2_with (first
    | ((with_reducible refine gate_dst (N := 2) rfl ?_); (try (refine gate_guard (by rfl) ?_; dsimp only)); refine box_event ?hg (N := 2) ?hd (cs := #[.bool false, .bool false, .slice none 0 0, .complex .f64 0 0]) (t := 61) ?hr ?_; (case hd => rfl); (case hg => rfl); (case hr => first | (go_simp; done) | (go_simp; rfl)); intro b2 hg wa1 hbox hb; have K_ := Kept.of_below hb (fun _ => False); replace Z := zA Z (K_.1); replace Z := zA Z (Nat.le_of_eq hg.symm); replace Z := zA Z (Nat.le_of_eq hg); replace Z := zA Z (blk_lt hbox); replace HBW := bS HBW hb; have BKb2 := Aside0.mk hbox; clear hb hbox hg K_; have zb20 : wa1.cell? ⟨b2, 0, none⟩ = some (.bool false) := (blk_cell BKb2.out 0).trans rfl; have zb21 : wa1.cell? ⟨b2, 1, none⟩ = some (.bool false) := (blk_cell BKb2.out 1).trans rfl; have zb22 : wa1.cell? ⟨b2, 2, none⟩ = some (.slice none 0 0) := (blk_cell BKb2.out 2).trans rfl; have zb23 : wa1.cell? ⟨b2, 3, none⟩ = some (.complex .f64 0 0) := (blk_cell BKb2.out 3).trans rfl; have fb20 : wa1.frozen? ⟨b2, 0, none⟩ = false := blk_frozen BKb2.out 0; have fb21 : wa1.frozen? ⟨b2, 1, none⟩ = false := blk_frozen BKb2.out 1; have fb22 : wa1.frozen? ⟨b2, 2, none⟩ = false := blk_frozen BKb2.out 2; have fb23 : wa1.frozen? ⟨b2, 3, none⟩ = false := blk_frozen BKb2.out 3; have hx1 : wa1.cell? ad = some (.int .u8 2) := (HBW.out.cell hl0.out).trans hx.out)
    | ((with_reducible refine gate_dst (N := 4) rfl ?_); (try (refine gate_guard (by rfl) ?_; dsimp only)); refine box_event ?hg (N := 4) ?hd (cs := #[.int .u64 0, .int .u64 0]) (t := 130) ?hr ?_; (case hd => rfl); (case hg => rfl); (case hr => first | (go_simp; done) | (go_simp; rfl)); intro b4 hg wa2 hbox hb; have K_ := Kept.of_below hb (fun _ => False); replace BKb2 := mvB BKb2 K_; replace Z := zA Z (K_.1); replace Z := zA Z (Nat.le_of_eq hg.symm); replace Z := zA Z (Nat.le_of_eq hg); replace Z := zA Z (blk_lt hbox); replace HBW := bS HBW hb; have BKb4 := Aside0.mk hbox; clear hb hbox hg K_; clear zb20 zb21 zb22 zb23 fb20 fb21 fb22 fb23; have zb20 : wa2.cell? ⟨b2, 0, none⟩ = some (.bool false) := (blk_cell BKb2.out 0).trans rfl; have zb21 : wa2.cell? ⟨b2, 1, none⟩ = some (.bool false) := (blk_cell BKb2.out 1).trans rfl; have zb22 : wa2.cell? ⟨b2, 2, none⟩ = some (.slice none 0 0) := (blk_cell BKb2.out 2).trans rfl; have zb23 : wa2.cell? ⟨b2, 3, none⟩ = some (.complex .f64 0 0) := (blk_cell BKb2.out 3).trans rfl; have fb20 : wa2.frozen? ⟨b2, 0, none⟩ = false := blk_frozen BKb2.out 0; have fb21 : wa2.frozen? ⟨b2, 1, none⟩ = false := blk_frozen BKb2.out 1; have fb22 : wa2.frozen? ⟨b2, 2, none⟩ = false := blk_frozen BKb2.out 2; have fb23 : wa2.frozen? ⟨b2, 3, none⟩ = false := blk_frozen BKb2.out 3; have nb2b4 : b2 ≠ b4 := (by have hZ := Z.out; omega); have nb4b2 := nb2b4.symm; have zb40 : wa2.cell? ⟨b4, 0, none⟩ = some (.int .u64 0) := (blk_cell BKb4.out 0).trans rfl; have zb41 : wa2.cell? ⟨b4, 1, none⟩ = some (.int .u64 0) := (blk_cell BKb4.out 1).trans rfl; have fb40 : wa2.frozen? ⟨b4, 0, none⟩ = false := blk_frozen BKb4.out 0; have fb41 : wa2.frozen? ⟨b4, 1, none⟩ = false := blk_frozen BKb4.out 1))
  clear hx1 hcut
  have HNE := Aside0.mk (show b2 ≠ b4 from by have hZ := Z.out; omega)
  have HG4 := Aside0.mk (show w.heap.size ≤ b4 from by have hZ := Z.out; omega)
  have HG2 := Aside0.mk (show w.heap.size ≤ b2 from by have hZ := Z.out; omega)
  go_loopw [31] (fun i w' => ∃ (x : Int) (k : Nat) (p q : Int), i = .int .i64 x ∧ Aside0 (x = (k : Int) ∧ k ≤ 16 ∧ p = w8 t 0 k ∧ q = w8 t 8 (k - 8)) ∧ Aside0 (w'.heap[b4]? = some (.cells #[.int .u64 p, .int .u64 q] 130 (0, 0))) ∧ Aside0 (w'.heap[b2]? = some (.cells #[.bool false, .bool false, .slice none 0 0, .complex .f64 0 0] 61 (0, 0))) ∧ Aside0 (Below w.heap.size w w')) (fun i _ => (16 - intOf i).toNat)
  case atStart => exact ⟨0, 0, 0, 0, rfl, ⟨rfl, by decide, (w8_zero _ _).symm, (w8_zero _ _).symm⟩, BKb4, BKb2, HBW⟩
  case round =>
    clear BKb4 BKb2 HBW hx hr zb20 zb21 zb22 zb23 zb40 zb41
    obtain ⟨x, k, p, q, rfl, HK, B4, B2, HBr⟩ := hrel
    obtain ⟨wo, rfl⟩ : ∃ wo : World, wo = wr := ⟨_, rfl⟩
    have hz0 : wo.cell? ⟨b4, 0, none⟩ = some (.int .u64 p) := (blk_cell B4.out 0).trans rfl
    have hz1 : wo.cell? ⟨b4, 1, none⟩ = some (.int .u64 q) := (blk_cell B4.out 1).trans rfl
    have hf0 : wo.frozen? ⟨b4, 0, none⟩ = false := blk_frozen B4.out 0
    have hf1 : wo.frozen? ⟨b4, 1, none⟩ = false := blk_frozen B4.out 1
    by_cases hlt : k < 16
    · have g1 : 0 ≤ x := by have := HK.out.1; omega
      have g2 : x < 16 := by have := HK.out.1; omega
      obtain ⟨ad2, e2, hc2⟩ := Kd.at_int hrt.out x g1 (by rw [HT16.out]; exact g2)
      have hc2 := (HBr.out.cell (World.block_lt_of_cell? w _ hc2)).trans hc2
      subst e2
      by_cases h8 : k < 8
      · have hq : x / 8 = 0 := by have := HK.out.1; omega
        clear hlt h8
        have HV := Aside0.mk (w8_step t hbt.out 0 k x (by have := HK.out; omega) (by have := HK.out; have := HT16.out; omega) (by have := HK.out; omega))
        have HP := Aside0.mk (show p = w8 t 0 k from HK.out.2.2.1)
        go_wp2
        go_roundw
        case rel => exact ⟨x + 1, k + 1, w8 t 0 (k + 1), q, rfl, ⟨by have := HK.out.1; omega, by have := HK.out.1; omega, rfl, by have h := HK.out.2.2.2; rw [show k + 1 - 8 = k - 8 from by have := HK.out.1; omega]; exact h⟩, ⟨by rw [HP.out, HV.out]; refine blk_put (cs := #[.int .u64 p, .int .u64 q]) ?_ 0 _ rfl; exact B4.out⟩, ⟨(Below.heap_setCell _ _ _ _ HNE.out).trans B2.out⟩, ⟨below_set HBr.out HG4.out⟩⟩
        case measure => simp [intOf]; omega
      · have hq : x / 8 = 1 := by have := HK.out.1; omega
        have HV := Aside0.mk (w8_step t hbt.out 8 (k - 8) x (by have := HK.out; omega) (by have := HK.out; have := HT16.out; omega) (by have := HK.out; omega))
        have HP := Aside0.mk (show q = w8 t 8 (k - 8) from HK.out.2.2.2)
        have HL8 := Aside0.mk (show 8 ≤ k from by omega)
        clear hlt h8
        go_wp2
        go_roundw
        case rel => exact ⟨x + 1, k + 1, p, w8 t 8 (k - 8 + 1), rfl, ⟨by have := HK.out.1; omega, by have := HK.out.1; omega, by have h := HK.out.2.2.1; rw [w8_more _ _ _ HL8.out] at h; rw [w8_more _ _ _ (Nat.le_trans HL8.out (Nat.le_succ k))]; exact h, by rw [show k + 1 - 8 = k - 8 + 1 from by have := HL8.out; omega]⟩, ⟨by rw [HP.out, HV.out]; refine blk_put (cs := #[.int .u64 p, .int .u64 q]) ?_ 1 _ rfl; exact B4.out⟩, ⟨(Below.heap_setCell _ _ _ _ HNE.out).trans B2.out⟩, ⟨below_set HBr.out HG4.out⟩⟩
        case measure => simp [intOf]; omega
    · obtain rfl : p = w8 t 0 8 := by have h := HK.out.2.2.1; rw [w8_more _ _ _ (by have := HK.out.1; omega)] at h; exact h
      obtain rfl : q = w8 t 8 8 := by have h := HK.out.2.2.2; rw [w8_more _ _ _ (by have := HK.out.1; omega)] at h; exact h
      have g2 : ¬ x < 16 := by have := HK.out.1; omega
      clear hlt
      go_wp2
      have HB_ := Aside0.mk (Below.refl wo.heap.size wo).drew
      have h104 := fun n w => f64from_run n w
      go_region_held3 (fun w' => w'.cell? ⟨b4, 0, none⟩ = some (.int .u64 (w8 t 0 8)) ∧ w'.cell? ⟨b4, 1, none⟩ = some (.int .u64 (w8 t 8 8)))
        (first | exact ⟨(blk_cell (blk_below B4.out HB_.out) 0).trans rfl, (blk_cell (blk_below B4.out HB_.out) 1).trans rfl⟩ | exact ⟨(blk_cell ((Below.heap_setCell _ _ _ _ HNE.out.symm).trans ((Below.heap_setCell _ _ _ _ HNE.out.symm).trans ((Below.heap_setCell _ _ _ _ HNE.out.symm).trans ((Below.heap_setCell _ _ _ _ HNE.out.symm).trans (blk_below B4.out HB_.out))))) 0).trans rfl, (blk_cell ((Below.heap_setCell _ _ _ _ HNE.out.symm).trans ((Below.heap_setCell _ _ _ _ HNE.out.symm).trans ((Below.heap_setCell _ _ _ _ HNE.out.symm).trans ((Below.heap_setCell _ _ _ _ HNE.out.symm).trans (blk_below B4.out HB_.out))))) 1).trans rfl⟩)
        (first | (go_at_call 101; refine (number_pair.calls _ _ _).mono ?_; rintro e wr ⟨rfl, hb⟩; have n_ := Aside0.mk (below_step HB_.out hb); clear HB_; have HB_ := n_; clear n_; have B2e := Aside0.mk (blk_below B2.out HB_.out); have y0 : wr.cell? ⟨b2, 0, none⟩ = some (.bool false) := (blk_cell B2e.out 0).trans rfl; have y1 : wr.cell? ⟨b2, 1, none⟩ = some (.bool false) := (blk_cell B2e.out 1).trans rfl; have y2 : wr.cell? ⟨b2, 2, none⟩ = some (.slice none 0 0) := (blk_cell B2e.out 2).trans rfl; have y3 : wr.cell? ⟨b2, 3, none⟩ = some (.complex .f64 0 0) := (blk_cell B2e.out 3).trans rfl; have q0 := blk_frozen B2e.out 0; have q1 := blk_frozen B2e.out 1; have q2 := blk_frozen B2e.out 2; have q3 := blk_frozen B2e.out 3; clear hb))
      all_goals go_wp2
      all_goals (
        refine bodyPost_ret (results_ct3 rfl _ _ b2 61 #[.bool true, .bool false, .slice none 0 0, .complex .f64 (w8 t 0 8).toNat (w8 t 8 8).toNat] (0, 0) _ rfl (by refine blk_put (cs := #[.bool true, .bool false, .slice none 0 0, .complex .f64 0 0]) ?_ 3 _ rfl; refine blk_put (cs := #[.bool true, .bool false, .slice none 0 0, .complex .f64 0 0]) ?_ 2 _ rfl; refine blk_put (cs := #[.bool true, .bool false, .slice none 0 0, .complex .f64 0 0]) ?_ 1 _ rfl; refine blk_put (cs := #[.bool false, .bool false, .slice none 0 0, .complex .f64 0 0]) ?_ 0 _ rfl; exact B2e.out) Try.underlying61 rfl (by kernel_rfl)) rfl ?_
        exact ⟨rfl, below_set (below_set (below_set (below_set (below_step HBr.out HB_.out) HG2.out) HG2.out) HG2.out) HG2.out⟩)

attribute [local go_sem] stC stF
/-! ### number.Get: whole numbers -/
theorem getbits_0 : bitsN 0 = 0 := by decide +kernel
set_option maxHeartbeats 16000000 in
set_option maxRecDepth 100000 in
theorem number_Get.whole (ad : Addr) (c : Nat) (l t : List Int) (v : Int) (s : Bool) (hn : 0 < l.length) (hv : (v = 0 ∧ s = false) ∨ (v = 1 ∧ s = true)) (h0 : rd l 0 = v) (ht : t = l.drop 1) (w : World) (hr : Kd.C (Kd.int .u8) w (some ad) l.length l) (hc : l.length ≤ c) (hl : l.length ≤ 140737488351232) (hw : whole_Right.f s t = some true) :
    Calls Try.prog 64 #[.slice (some ad) l.length c] w fun e w' => ∃ v_ : Value, e = .returned (.tuple #[.agg #[.bool false, .bool s, v_, .complex .f64 0 0], .int .i64 0]) ∧ Kd.R (Kd.int .u8) 5 w' w.heap.size (fun _ => True) v_ t ∧ Below w.heap.size w w' := by
  have hu24 := Try.underlying24
  have hu25 := Try.underlying25
  have hu61 := Try.underlying61
  obtain ⟨ad_, e_, hx⟩ := first_byte hr (by omega)
  cases e_
  rw [h0] at hx
  have hx := Aside0.mk hx
  clear h0
  obtain ⟨A1, hcut, hrt⟩ := cut1 hr (by omega) hc
  rw [← ht] at hrt
  have hrt := Aside0.mk hrt
  have hl0 := Aside0.mk (World.block_lt_of_cell? w _ hx.out)
  have HTL := Aside0.mk (show t.length = l.length - 1 from by rw [ht, List.length_drop])
  rw [← HTL.out] at hcut
  have HC1 := Aside0.mk (show t.length ≤ c - 1 from by have := HTL.out; omega)
  have hn0 : ((l.length : Int) == 0) = false := beq_eq_false_iff_ne.2 (by omega)
  have HN := Aside0.mk (show 0 < l.length from by omega)
  have HCL := Aside0.mk (show slices_Clone_byte_byte.f t = some t from by unfold slices_Clone_byte_byte.f; rw [if_pos (by have := HTL.out; omega)])
  clear ht hn
  have n_ := Aside0.mk hr
  clear hr
  have hr := n_
  clear n_
  have n_ := Aside0.mk hc
  clear hc
  have hc := n_
  clear n_
  have n_ := Aside0.mk hl
  clear hl
  have hl := n_
  clear n_
  have n_ := Aside0.mk hw
  clear hw
  have hw := n_
  clear n_
  have HBW := Aside0.mk (Below.refl w.heap.size w)
  have Z := Aside0.mk (show w.heap.size ≤ w.heap.size from Nat.le_refl _)
  have k1 : decide (2 < v) = false := decide_eq_false (by rcases hv with ⟨rfl, _⟩ | ⟨rfl, _⟩ <;> decide)
  have k2 : (v == 2) = false := by rcases hv with ⟨rfl, _⟩ | ⟨rfl, _⟩ <;> rfl
  have k3 : (v == 1) = s := by rcases hv with ⟨rfl, rfl⟩ | ⟨rfl, rfl⟩ <;> rfl
  clear hv
  have hx0 := hx.out
  go_enter Try.func64, Try.ntmps64
  go_wp2_with (first
      | ((with_reducible refine gate_dst (N := 2) rfl ?_); (try (refine gate_guard (by rfl) ?_; dsimp only)); refine box_event ?hg (N := 2) ?hd (cs := #[.bool false, .bool false, .slice none 0 0, .complex .f64 0 0]) (t := 61) ?hr ?_; (case hd => rfl); (case hg => rfl); (case hr => first | (go_simp; done) | (go_simp; rfl)); intro b2 hg wa1 hbox hb; have K_ := Kept.of_below hb (fun _ => False); replace Z := zA Z (K_.1); replace Z := zA Z (Nat.le_of_eq hg.symm); replace Z := zA Z (Nat.le_of_eq hg); replace Z := zA Z (blk_lt hbox); replace HBW := bS HBW hb; have BKb2 := Aside0.mk hbox; clear hb hbox hg K_; have zb20 : wa1.cell? ⟨b2, 0, none⟩ = some (.bool false) := (blk_cell BKb2.out 0).trans rfl; have zb21 : wa1.cell? ⟨b2, 1, none⟩ = some (.bool false) := (blk_cell BKb2.out 1).trans rfl; have zb22 : wa1.cell? ⟨b2, 2, none⟩ = some (.slice none 0 0) := (blk_cell BKb2.out 2).trans rfl; have zb23 : wa1.cell? ⟨b2, 3, none⟩ = some (.complex .f64 0 0) := (blk_cell BKb2.out 3).trans rfl; have fb20 : wa1.frozen? ⟨b2, 0, none⟩ = false := blk_frozen BKb2.out 0; have fb21 : wa1.frozen? ⟨b2, 1, none⟩ = false := blk_frozen BKb2.out 1; have fb22 : wa1.frozen? ⟨b2, 2, none⟩ = false := blk_frozen BKb2.out 2; have fb23 : wa1.frozen? ⟨b2, 3, none⟩ = false := blk_frozen BKb2.out 3; replace hx0 := (HBW.out.cell hl0.out).trans hx0; have hn1 := HN.out))
  have HX0 := Aside0.mk hx0
  have HB_ := Aside0.mk (Below.refl wa1.heap.size wa1).drew
  go_region_held3 (fun w' => w'.cell? ad = some (.int .u8 v))
      ((refine (Below.cell (show Below wa1.heap.size wa1 _ from ?_) (World.block_lt_of_cell? wa1 _ HX0.out)).trans HX0.out; repeat' (first | exact HB_.out | (refine below_set ?_ ?_) | (refine below_alloc ?_ _) | exact Nat.le_refl _ | exact Below.refl _ _ | (refine below_drew1 ?_) | exact GE9.out | exact (below_size HB_.out))))
      (first | (go_at_call 105; (try ((first | (refine atAlloc ?_; intro W9 h9 B9; have GE9 := Aside0.mk (below_size HB_.out); have n_ := Aside0.mk (below_step HB_.out h9)) | (refine atAllocD ?_; intro W9 h9 B9; have GE9 := Aside0.mk (Nat.le_refl wa1.heap.size); have n_ := Aside0.mk h9)); clear HB_; have HB_ := n_; clear n_; have X9 := Aside0.mk B9; clear h9 B9)); refine (slices_Clone_byte_byte.calls A1 (c - 1) t t _ (Kd.C_below (Kd.C_below hrt.out HBW.out) HB_.out) HC1.out HCL.out).mono ?_; rintro e wr ⟨v1_, rfl, hR, hb⟩; have LT_ := Aside0.mk (below_size HB_.out); have n_ := Aside0.mk (below_step HB_.out hb); clear HB_; have HB_ := n_; clear n_; (try (have n_ := Aside0.mk (blk_below X9.out hb); clear X9; have X9 := n_; clear n_; have y0 : _ = some (Value.bool false) := (blk_cell X9.out 0).trans rfl; have y1 : _ = some (Value.bool false) := (blk_cell X9.out 1).trans rfl; have y2 : _ = some (Value.slice none 0 0) := (blk_cell X9.out 2).trans rfl; have y3 : _ = some (Value.complex .f64 0 0) := (blk_cell X9.out 3).trans rfl; have q0 := blk_frozen X9.out 0; have q1 := blk_frozen X9.out 1; have q2 := blk_frozen X9.out 2; have q3 := blk_frozen X9.out 3)); obtain ⟨Az, cz, ev_⟩ := Kd.R_slice hR; subst ev_; have RV := Aside0.mk hR; clear hR hb))
  all_goals first
    | (obtain ⟨wz, hwz⟩ : ∃ W_, W_ = wr.alloc (.cells #[.bool false, .bool s, .slice Az t.length cz, .complex .f64 0 0] 61) := ⟨_, rfl⟩; obtain ⟨g7, hg7⟩ : ∃ g_, g_ = wr.heap.size := ⟨_, rfl⟩; rw [← hwz, ← hg7]; have K7 : Below wr.heap.size wr wz := (by rw [hwz]; exact below_alloc (Below.refl _ _) _); have BKg7 := Aside0.mk (show wz.heap[g7]? = some (.cells #[.bool false, .bool s, .slice Az t.length cz, .complex .f64 0 0] 61 (0, 0)) from (by rw [hwz, hg7]; exact World.alloc_heap_new _ _)); have HGE7 := Aside0.mk (show wa1.heap.size ≤ g7 from (by rw [hg7]; exact below_size HB_.out)); have RVZ := Kd.R_below RV.out K7; have HBZ := Aside0.mk (below_step HB_.out K7); have Rz := Aside0.mk (show Kd.R (Kd.int .u8) 5 wz w.heap.size (fun k => wa1.heap.size ≤ k ∧ k < wz.heap.size) (.slice Az t.length cz) t from Kd.R_lower (Kd.R_mono (Kd.R_bound RVZ) (fun k hk => ⟨Nat.le_trans LT_.out hk.2.1, hk.2.2.1⟩)) (Nat.le_trans (below_size HBW.out) LT_.out)); clear RVZ K7 hwz hg7)
    | (obtain ⟨wz, hwz⟩ : ∃ W_, W_ = (World.setCell (World.setCell (World.setCell (World.setCell wr ⟨wa1.heap.size, 0, none⟩ (.bool false)) ⟨wa1.heap.size, 1, none⟩ (.bool s)) ⟨wa1.heap.size, 2, none⟩ (.slice Az t.length cz)) ⟨wa1.heap.size, 3, none⟩ (.complex .f64 0 0)) := ⟨_, rfl⟩; rw [← hwz]; obtain ⟨g7, hg7⟩ : ∃ g_, g_ = wa1.heap.size := ⟨_, rfl⟩; have BKg7 := Aside0.mk (show wz.heap[g7]? = some (.cells #[.bool false, .bool s, .slice Az t.length cz, .complex .f64 0 0] 61 (0, 0)) from (by rw [hwz, hg7]; refine blk_put (cs := #[.bool false, .bool s, .slice Az t.length cz, .complex .f64 0 0]) ?_ 3 _ rfl; refine blk_put (cs := #[.bool false, .bool s, .slice none 0 0, .complex .f64 0 0]) ?_ 2 _ rfl; refine blk_put (cs := #[.bool false, .bool false, .slice none 0 0, .complex .f64 0 0]) ?_ 1 _ rfl; refine blk_put (cs := #[.bool false, .bool false, .slice none 0 0, .complex .f64 0 0]) ?_ 0 _ rfl; exact X9.out)); have RVZ : Kd.R (Kd.int .u8) 5 wz _ _ (.slice Az t.length cz) t := (by rw [hwz]; exact (Kd.R_far (p := ⟨wa1.heap.size, 3, none⟩) (Kd.R_far (p := ⟨wa1.heap.size, 2, none⟩) (Kd.R_far (p := ⟨wa1.heap.size, 1, none⟩) (Kd.R_far (p := ⟨wa1.heap.size, 0, none⟩) (Kd.R_types RV.out X9.out (by decide)) (fun _ hk => hk.2) (.bool false)) (fun _ hk => hk.2) (.bool s)) (fun _ hk => hk.2) (.slice Az t.length cz)) (fun _ hk => hk.2) (.complex .f64 0 0))); have HBZ := Aside0.mk (show Below wa1.heap.size wa1 wz from (by rw [hwz]; exact below_set (below_set (below_set (below_set (HB_.out) (Nat.le_refl _)) (Nat.le_refl _)) (Nat.le_refl _)) (Nat.le_refl _))); have HGE7 := Aside0.mk (show wa1.heap.size ≤ g7 from (Nat.le_of_eq hg7.symm)); rw [← hg7]; have Rz := Aside0.mk (show Kd.R (Kd.int .u8) 5 wz w.heap.size (fun k => wa1.heap.size ≤ k ∧ k < wz.heap.size) (.slice Az t.length cz) t from Kd.R_lower (Kd.R_mono (Kd.R_bound RVZ) (fun k hk => ⟨Nat.le_trans LT_.out hk.2.1, hk.2.2.1⟩)) (Nat.le_trans (below_size HBW.out) LT_.out)); clear RVZ hwz hg7 X9 y0 y1 y2 y3 q0 q1 q2 q3)
  all_goals (
    have HG7 := Aside0.mk (show b2 < wz.heap.size ∧ w.heap.size ≤ b2 ∧ b2 < wa1.heap.size from by have hZ := Z.out; have := below_size HBZ.out; omega)
    replace BKb2 := Aside0.mk (blk_below BKb2.out HBZ.out)
    replace HBW := Aside0.mk (below_step HBW.out HBZ.out)
    clear HBZ HB_ RV HX0 hx0
    have HN7 := Aside0.mk (show b2 ≠ g7 from by have := HG7.out; have := HGE7.out; omega)
    replace Z := zA Z (And.intro HG7.out HGE7.out)
    clear zb20 zb21 zb22 zb23; have zb20 : wz.cell? ⟨b2, 0, none⟩ = some (.bool false) := (blk_cell BKb2.out 0).trans rfl; have zb21 : wz.cell? ⟨b2, 1, none⟩ = some (.bool false) := (blk_cell BKb2.out 1).trans rfl; have zb22 : wz.cell? ⟨b2, 2, none⟩ = some (.slice none 0 0) := (blk_cell BKb2.out 2).trans rfl; have zb23 : wz.cell? ⟨b2, 3, none⟩ = some (.complex .f64 0 0) := (blk_cell BKb2.out 3).trans rfl; have fb20 : wz.frozen? ⟨b2, 0, none⟩ = false := blk_frozen BKb2.out 0; have fb21 : wz.frozen? ⟨b2, 1, none⟩ = false := blk_frozen BKb2.out 1; have fb22 : wz.frozen? ⟨b2, 2, none⟩ = false := blk_frozen BKb2.out 2; have fb23 : wz.frozen? ⟨b2, 3, none⟩ = false := blk_frozen BKb2.out 3; have nb2g7 : b2 ≠ g7 := (by have hZ := Z.out; omega); have ng7b2 := nb2g7.symm; have zg70 : wz.cell? ⟨g7, 0, none⟩ = some (.bool false) := (blk_cell BKg7.out 0).trans rfl; have zg71 : wz.cell? ⟨g7, 1, none⟩ = some (.bool s) := (blk_cell BKg7.out 1).trans rfl; have zg72 : wz.cell? ⟨g7, 2, none⟩ = some (.slice Az t.length cz) := (blk_cell BKg7.out 2).trans rfl; have zg73 : wz.cell? ⟨g7, 3, none⟩ = some (.complex .f64 0 0) := (blk_cell BKg7.out 3).trans rfl
    go_wp2_with (first
      | ((with_reducible refine gate_dst (N := 66) rfl ?_); (try (refine gate_guard (by rfl) ?_; dsimp only)); refine goesL_ (some 66) rfl rfl Try.func58 (by kernel_rfl) rfl #[.agg #[.bool false, .bool s, .slice Az t.length cz, .complex .f64 0 0]] rfl (by (try simp only [List.map_toArray, List.map_cons, List.map_nil]); first | done | rfl | (simp only [List.length_drop, List.length_take]; rfl)) ?_; refine (number_Right.wy Az cz t 0 0 s getbits_0 getbits_0 _ (Kd.R_reads' Rz.out).2.2 (Kd.R_reads' Rz.out).2.1 hw.out).mono ?_; rintro e wa2 ⟨rfl, hb⟩; refine ⟨_, rfl, ?_⟩; have K_ := Kept.of_below hb (fun _ => False); replace BKb2 := mvB BKb2 K_; replace BKg7 := mvB BKg7 K_; replace Rz := mvR Rz K_; replace Z := zA Z (K_.1); replace HBW := bS HBW hb; clear hb K_; clear zb20 zb21 zb22 zb23 fb20 fb21 fb22 fb23 nb2g7 ng7b2 zg70 zg71 zg72 zg73; have zb20 : wa2.cell? ⟨b2, 0, none⟩ = some (.bool false) := (blk_cell BKb2.out 0).trans rfl; have zb21 : wa2.cell? ⟨b2, 1, none⟩ = some (.bool false) := (blk_cell BKb2.out 1).trans rfl; have zb22 : wa2.cell? ⟨b2, 2, none⟩ = some (.slice none 0 0) := (blk_cell BKb2.out 2).trans rfl; have zb23 : wa2.cell? ⟨b2, 3, none⟩ = some (.complex .f64 0 0) := (blk_cell BKb2.out 3).trans rfl; have fb20 : wa2.frozen? ⟨b2, 0, none⟩ = false := blk_frozen BKb2.out 0; have fb21 : wa2.frozen? ⟨b2, 1, none⟩ = false := blk_frozen BKb2.out 1; have fb22 : wa2.frozen? ⟨b2, 2, none⟩ = false := blk_frozen BKb2.out 2; have fb23 : wa2.frozen? ⟨b2, 3, none⟩ = false := blk_frozen BKb2.out 3; have nb2g7 : b2 ≠ g7 := (by have hZ := Z.out; omega); have ng7b2 := nb2g7.symm; have zg70 : wa2.cell? ⟨g7, 0, none⟩ = some (.bool false) := (blk_cell BKg7.out 0).trans rfl; have zg71 : wa2.cell? ⟨g7, 1, none⟩ = some (.bool s) := (blk_cell BKg7.out 1).trans rfl; have zg72 : wa2.cell? ⟨g7, 2, none⟩ = some (.slice Az t.length cz) := (blk_cell BKg7.out 2).trans rfl; have zg73 : wa2.cell? ⟨g7, 3, none⟩ = some (.complex .f64 0 0) := (blk_cell BKg7.out 3).trans rfl; have fb20 := blk_frozen BKb2.out 0; have fb21 := blk_frozen BKb2.out 1; have fb22 := blk_frozen BKb2.out 2; have fb23 := blk_frozen BKb2.out 3; have hn72 := HN7.out; have hn73 := HN7.out.symm))
    refine bodyPost_ret (results_ct3 rfl _ _ b2 61 #[.bool false, .bool s, .slice Az t.length cz, .complex .f64 0 0] (0, 0) _ rfl (by refine blk_put (cs := #[.bool false, .bool s, .slice Az t.length cz, .complex .f64 0 0]) ?_ 3 _ rfl; refine blk_put (cs := #[.bool false, .bool s, .slice none 0 0, .complex .f64 0 0]) ?_ 2 _ rfl; refine blk_put (cs := #[.bool false, .bool false, .slice none 0 0, .complex .f64 0 0]) ?_ 1 _ rfl; refine blk_put (cs := #[.bool false, .bool false, .slice none 0 0, .complex .f64 0 0]) ?_ 0 _ rfl; exact BKb2.out) Try.underlying61 rfl (by kernel_rfl)) rfl ?_
    exact ⟨_, rfl, Kd.R_mono (Kd.R_kept Rz.out (Kept.setCell (S := fun k => k = b2) (Kept.setCell (S := fun k => k = b2) (Kept.setCell (S := fun k => k = b2) (Kept.setCell (S := fun k => k = b2) (Kept.refl _ _) (p := ⟨b2, 0, none⟩) (.inl rfl) _) (p := ⟨b2, 1, none⟩) (.inl rfl) _) (p := ⟨b2, 2, none⟩) (.inl rfl) _) (p := ⟨b2, 3, none⟩) (.inl rfl) _) (fun k hk h => by have h9 := HG7.out; have h8 := hk.1; omega)) (fun _ _ => trivial), below_set (below_set (below_set (below_set (HBW.out) HG7.out.2.1) HG7.out.2.1) HG7.out.2.1) HG7.out.2.1⟩)
set_option maxHeartbeats 16000000 in
set_option maxRecDepth 100000 in
theorem number_Get.wbad (ad : Addr) (c : Nat) (l t : List Int) (v : Int) (s : Bool) (hn : 0 < l.length) (hv : (v = 0 ∧ s = false) ∨ (v = 1 ∧ s = true)) (h0 : rd l 0 = v) (ht : t = l.drop 1) (w : World) (hr : Kd.C (Kd.int .u8) w (some ad) l.length l) (hc : l.length ≤ c) (hl : l.length ≤ 140737488351232) (hw : whole_Right.f s t = some false) :
    Calls Try.prog 64 #[.slice (some ad) l.length c] w fun e w' => e = .returned (.tuple #[.agg #[.bool false, .bool false, .slice none 0 0, .complex .f64 0 0], .int .i64 11]) ∧ Below w.heap.size w w' := by
  have hu24 := Try.underlying24
  have hu25 := Try.underlying25
  have hu61 := Try.underlying61
  obtain ⟨ad_, e_, hx⟩ := first_byte hr (by omega)
  cases e_
  rw [h0] at hx
  have hx := Aside0.mk hx
  clear h0
  obtain ⟨A1, hcut, hrt⟩ := cut1 hr (by omega) hc
  rw [← ht] at hrt
  have hrt := Aside0.mk hrt
  have hl0 := Aside0.mk (World.block_lt_of_cell? w _ hx.out)
  have HTL := Aside0.mk (show t.length = l.length - 1 from by rw [ht, List.length_drop])
  rw [← HTL.out] at hcut
  have HC1 := Aside0.mk (show t.length ≤ c - 1 from by have := HTL.out; omega)
  have hn0 : ((l.length : Int) == 0) = false := beq_eq_false_iff_ne.2 (by omega)
  have HN := Aside0.mk (show 0 < l.length from by omega)
  have HCL := Aside0.mk (show slices_Clone_byte_byte.f t = some t from by unfold slices_Clone_byte_byte.f; rw [if_pos (by have := HTL.out; omega)])
  clear ht hn
  have n_ := Aside0.mk hr
  clear hr
  have hr := n_
  clear n_
  have n_ := Aside0.mk hc
  clear hc
  have hc := n_
  clear n_
  have n_ := Aside0.mk hl
  clear hl
  have hl := n_
  clear n_
  have n_ := Aside0.mk hw
  clear hw
  have hw := n_
  clear n_
  have HBW := Aside0.mk (Below.refl w.heap.size w)
  have Z := Aside0.mk (show w.heap.size ≤ w.heap.size from Nat.le_refl _)
  have k1 : decide (2 < v) = false := decide_eq_false (by rcases hv with ⟨rfl, _⟩ | ⟨rfl, _⟩ <;> decide)
  have k2 : (v == 2) = false := by rcases hv with ⟨rfl, _⟩ | ⟨rfl, _⟩ <;> rfl
  have k3 : (v == 1) = s := by rcases hv with ⟨rfl, rfl⟩ | ⟨rfl, rfl⟩ <;> rfl
  clear hv
  have hx0 := hx.out
  go_enter Try.func64, Try.ntmps64
  go_wp2_with (first
      | ((with_reducible refine gate_dst (N := 2) rfl ?_); (try (refine gate_guard (by rfl) ?_; dsimp only)); refine box_event ?hg (N := 2) ?hd (cs := #[.bool false, .bool false, .slice none 0 0, .complex .f64 0 0]) (t := 61) ?hr ?_; (case hd => rfl); (case hg => rfl); (case hr => first | (go_simp; done) | (go_simp; rfl)); intro b2 hg wa1 hbox hb; have K_ := Kept.of_below hb (fun _ => False); replace Z := zA Z (K_.1); replace Z := zA Z (Nat.le_of_eq hg.symm); replace Z := zA Z (Nat.le_of_eq hg); replace Z := zA Z (blk_lt hbox); replace HBW := bS HBW hb; have BKb2 := Aside0.mk hbox; clear hb hbox hg K_; have zb20 : wa1.cell? ⟨b2, 0, none⟩ = some (.bool false) := (blk_cell BKb2.out 0).trans rfl; have zb21 : wa1.cell? ⟨b2, 1, none⟩ = some (.bool false) := (blk_cell BKb2.out 1).trans rfl; have zb22 : wa1.cell? ⟨b2, 2, none⟩ = some (.slice none 0 0) := (blk_cell BKb2.out 2).trans rfl; have zb23 : wa1.cell? ⟨b2, 3, none⟩ = some (.complex .f64 0 0) := (blk_cell BKb2.out 3).trans rfl; have fb20 : wa1.frozen? ⟨b2, 0, none⟩ = false := blk_frozen BKb2.out 0; have fb21 : wa1.frozen? ⟨b2, 1, none⟩ = false := blk_frozen BKb2.out 1; have fb22 : wa1.frozen? ⟨b2, 2, none⟩ = false := blk_frozen BKb2.out 2; have fb23 : wa1.frozen? ⟨b2, 3, none⟩ = false := blk_frozen BKb2.out 3; replace hx0 := (HBW.out.cell hl0.out).trans hx0; have hn1 := HN.out))
  have HX0 := Aside0.mk hx0
  have HB_ := Aside0.mk (Below.refl wa1.heap.size wa1).drew
  go_region_held3 (fun w' => w'.cell? ad = some (.int .u8 v))
      ((refine (Below.cell (show Below wa1.heap.size wa1 _ from ?_) (World.block_lt_of_cell? wa1 _ HX0.out)).trans HX0.out; repeat' (first | exact HB_.out | (refine below_set ?_ ?_) | (refine below_alloc ?_ _) | exact Nat.le_refl _ | exact Below.refl _ _ | (refine below_drew1 ?_) | exact GE9.out | exact (below_size HB_.out))))
      (first | (go_at_call 105; (try ((first | (refine atAlloc ?_; intro W9 h9 B9; have GE9 := Aside0.mk (below_size HB_.out); have n_ := Aside0.mk (below_step HB_.out h9)) | (refine atAllocD ?_; intro W9 h9 B9; have GE9 := Aside0.mk (Nat.le_refl wa1.heap.size); have n_ := Aside0.mk h9)); clear HB_; have HB_ := n_; clear n_; have X9 := Aside0.mk B9; clear h9 B9)); refine (slices_Clone_byte_byte.calls A1 (c - 1) t t _ (Kd.C_below (Kd.C_below hrt.out HBW.out) HB_.out) HC1.out HCL.out).mono ?_; rintro e wr ⟨v1_, rfl, hR, hb⟩; have LT_ := Aside0.mk (below_size HB_.out); have n_ := Aside0.mk (below_step HB_.out hb); clear HB_; have HB_ := n_; clear n_; (try (have n_ := Aside0.mk (blk_below X9.out hb); clear X9; have X9 := n_; clear n_; have y0 : _ = some (Value.bool false) := (blk_cell X9.out 0).trans rfl; have y1 : _ = some (Value.bool false) := (blk_cell X9.out 1).trans rfl; have y2 : _ = some (Value.slice none 0 0) := (blk_cell X9.out 2).trans rfl; have y3 : _ = some (Value.complex .f64 0 0) := (blk_cell X9.out 3).trans rfl; have q0 := blk_frozen X9.out 0; have q1 := blk_frozen X9.out 1; have q2 := blk_frozen X9.out 2; have q3 := blk_frozen X9.out 3)); obtain ⟨Az, cz, ev_⟩ := Kd.R_slice hR; subst ev_; have RV := Aside0.mk hR; clear hR hb))
  all_goals first
    | (obtain ⟨wz, hwz⟩ : ∃ W_, W_ = wr.alloc (.cells #[.bool false, .bool s, .slice Az t.length cz, .complex .f64 0 0] 61) := ⟨_, rfl⟩; obtain ⟨g7, hg7⟩ : ∃ g_, g_ = wr.heap.size := ⟨_, rfl⟩; rw [← hwz, ← hg7]; have K7 : Below wr.heap.size wr wz := (by rw [hwz]; exact below_alloc (Below.refl _ _) _); have BKg7 := Aside0.mk (show wz.heap[g7]? = some (.cells #[.bool false, .bool s, .slice Az t.length cz, .complex .f64 0 0] 61 (0, 0)) from (by rw [hwz, hg7]; exact World.alloc_heap_new _ _)); have HGE7 := Aside0.mk (show wa1.heap.size ≤ g7 from (by rw [hg7]; exact below_size HB_.out)); have RVZ := Kd.R_below RV.out K7; have HBZ := Aside0.mk (below_step HB_.out K7); have Rz := Aside0.mk (show Kd.R (Kd.int .u8) 5 wz w.heap.size (fun k => wa1.heap.size ≤ k ∧ k < wz.heap.size) (.slice Az t.length cz) t from Kd.R_lower (Kd.R_mono (Kd.R_bound RVZ) (fun k hk => ⟨Nat.le_trans LT_.out hk.2.1, hk.2.2.1⟩)) (Nat.le_trans (below_size HBW.out) LT_.out)); clear RVZ K7 hwz hg7)
    | (obtain ⟨wz, hwz⟩ : ∃ W_, W_ = (World.setCell (World.setCell (World.setCell (World.setCell wr ⟨wa1.heap.size, 0, none⟩ (.bool false)) ⟨wa1.heap.size, 1, none⟩ (.bool s)) ⟨wa1.heap.size, 2, none⟩ (.slice Az t.length cz)) ⟨wa1.heap.size, 3, none⟩ (.complex .f64 0 0)) := ⟨_, rfl⟩; rw [← hwz]; obtain ⟨g7, hg7⟩ : ∃ g_, g_ = wa1.heap.size := ⟨_, rfl⟩; have BKg7 := Aside0.mk (show wz.heap[g7]? = some (.cells #[.bool false, .bool s, .slice Az t.length cz, .complex .f64 0 0] 61 (0, 0)) from (by rw [hwz, hg7]; refine blk_put (cs := #[.bool false, .bool s, .slice Az t.length cz, .complex .f64 0 0]) ?_ 3 _ rfl; refine blk_put (cs := #[.bool false, .bool s, .slice none 0 0, .complex .f64 0 0]) ?_ 2 _ rfl; refine blk_put (cs := #[.bool false, .bool false, .slice none 0 0, .complex .f64 0 0]) ?_ 1 _ rfl; refine blk_put (cs := #[.bool false, .bool false, .slice none 0 0, .complex .f64 0 0]) ?_ 0 _ rfl; exact X9.out)); have RVZ : Kd.R (Kd.int .u8) 5 wz _ _ (.slice Az t.length cz) t := (by rw [hwz]; exact (Kd.R_far (p := ⟨wa1.heap.size, 3, none⟩) (Kd.R_far (p := ⟨wa1.heap.size, 2, none⟩) (Kd.R_far (p := ⟨wa1.heap.size, 1, none⟩) (Kd.R_far (p := ⟨wa1.heap.size, 0, none⟩) (Kd.R_types RV.out X9.out (by decide)) (fun _ hk => hk.2) (.bool false)) (fun _ hk => hk.2) (.bool s)) (fun _ hk => hk.2) (.slice Az t.length cz)) (fun _ hk => hk.2) (.complex .f64 0 0))); have HBZ := Aside0.mk (show Below wa1.heap.size wa1 wz from (by rw [hwz]; exact below_set (below_set (below_set (below_set (HB_.out) (Nat.le_refl _)) (Nat.le_refl _)) (Nat.le_refl _)) (Nat.le_refl _))); have HGE7 := Aside0.mk (show wa1.heap.size ≤ g7 from (Nat.le_of_eq hg7.symm)); rw [← hg7]; have Rz := Aside0.mk (show Kd.R (Kd.int .u8) 5 wz w.heap.size (fun k => wa1.heap.size ≤ k ∧ k < wz.heap.size) (.slice Az t.length cz) t from Kd.R_lower (Kd.R_mono (Kd.R_bound RVZ) (fun k hk => ⟨Nat.le_trans LT_.out hk.2.1, hk.2.2.1⟩)) (Nat.le_trans (below_size HBW.out) LT_.out)); clear RVZ hwz hg7 X9 y0 y1 y2 y3 q0 q1 q2 q3)
  all_goals (
    have HG7 := Aside0.mk (show b2 < wz.heap.size ∧ w.heap.size ≤ b2 ∧ b2 < wa1.heap.size from by have hZ := Z.out; have := below_size HBZ.out; omega)
    replace BKb2 := Aside0.mk (blk_below BKb2.out HBZ.out)
    replace HBW := Aside0.mk (below_step HBW.out HBZ.out)
    clear HBZ HB_ RV HX0 hx0
    have HN7 := Aside0.mk (show b2 ≠ g7 from by have := HG7.out; have := HGE7.out; omega)
    replace Z := zA Z (And.intro HG7.out HGE7.out)
    clear zb20 zb21 zb22 zb23; have zb20 : wz.cell? ⟨b2, 0, none⟩ = some (.bool false) := (blk_cell BKb2.out 0).trans rfl; have zb21 : wz.cell? ⟨b2, 1, none⟩ = some (.bool false) := (blk_cell BKb2.out 1).trans rfl; have zb22 : wz.cell? ⟨b2, 2, none⟩ = some (.slice none 0 0) := (blk_cell BKb2.out 2).trans rfl; have zb23 : wz.cell? ⟨b2, 3, none⟩ = some (.complex .f64 0 0) := (blk_cell BKb2.out 3).trans rfl; have fb20 : wz.frozen? ⟨b2, 0, none⟩ = false := blk_frozen BKb2.out 0; have fb21 : wz.frozen? ⟨b2, 1, none⟩ = false := blk_frozen BKb2.out 1; have fb22 : wz.frozen? ⟨b2, 2, none⟩ = false := blk_frozen BKb2.out 2; have fb23 : wz.frozen? ⟨b2, 3, none⟩ = false := blk_frozen BKb2.out 3; have nb2g7 : b2 ≠ g7 := (by have hZ := Z.out; omega); have ng7b2 := nb2g7.symm; have zg70 : wz.cell? ⟨g7, 0, none⟩ = some (.bool false) := (blk_cell BKg7.out 0).trans rfl; have zg71 : wz.cell? ⟨g7, 1, none⟩ = some (.bool s) := (blk_cell BKg7.out 1).trans rfl; have zg72 : wz.cell? ⟨g7, 2, none⟩ = some (.slice Az t.length cz) := (blk_cell BKg7.out 2).trans rfl; have zg73 : wz.cell? ⟨g7, 3, none⟩ = some (.complex .f64 0 0) := (blk_cell BKg7.out 3).trans rfl
    go_wp2_with (first
      | ((with_reducible refine gate_dst (N := 66) rfl ?_); (try (refine gate_guard (by rfl) ?_; dsimp only)); refine goesL_ (some 66) rfl rfl Try.func58 (by kernel_rfl) rfl #[.agg #[.bool false, .bool s, .slice Az t.length cz, .complex .f64 0 0]] rfl (by (try simp only [List.map_toArray, List.map_cons, List.map_nil]); first | done | rfl | (simp only [List.length_drop, List.length_take]; rfl)) ?_; refine (number_Right.wn Az cz t 0 0 s _ (Kd.R_reads' Rz.out).2.2 (Kd.R_reads' Rz.out).2.1 hw.out).mono ?_; rintro e wa2 ⟨rfl, hb⟩; refine ⟨_, rfl, ?_⟩; have K_ := Kept.of_below hb (fun _ => False); replace BKb2 := mvB BKb2 K_; replace BKg7 := mvB BKg7 K_; replace Rz := mvR Rz K_; replace Z := zA Z (K_.1); replace HBW := bS HBW hb; clear hb K_; clear zb20 zb21 zb22 zb23 fb20 fb21 fb22 fb23 nb2g7 ng7b2 zg70 zg71 zg72 zg73; have zb20 : wa2.cell? ⟨b2, 0, none⟩ = some (.bool false) := (blk_cell BKb2.out 0).trans rfl; have zb21 : wa2.cell? ⟨b2, 1, none⟩ = some (.bool false) := (blk_cell BKb2.out 1).trans rfl; have zb22 : wa2.cell? ⟨b2, 2, none⟩ = some (.slice none 0 0) := (blk_cell BKb2.out 2).trans rfl; have zb23 : wa2.cell? ⟨b2, 3, none⟩ = some (.complex .f64 0 0) := (blk_cell BKb2.out 3).trans rfl; have fb20 : wa2.frozen? ⟨b2, 0, none⟩ = false := blk_frozen BKb2.out 0; have fb21 : wa2.frozen? ⟨b2, 1, none⟩ = false := blk_frozen BKb2.out 1; have fb22 : wa2.frozen? ⟨b2, 2, none⟩ = false := blk_frozen BKb2.out 2; have fb23 : wa2.frozen? ⟨b2, 3, none⟩ = false := blk_frozen BKb2.out 3; have nb2g7 : b2 ≠ g7 := (by have hZ := Z.out; omega); have ng7b2 := nb2g7.symm; have zg70 : wa2.cell? ⟨g7, 0, none⟩ = some (.bool false) := (blk_cell BKg7.out 0).trans rfl; have zg71 : wa2.cell? ⟨g7, 1, none⟩ = some (.bool s) := (blk_cell BKg7.out 1).trans rfl; have zg72 : wa2.cell? ⟨g7, 2, none⟩ = some (.slice Az t.length cz) := (blk_cell BKg7.out 2).trans rfl; have zg73 : wa2.cell? ⟨g7, 3, none⟩ = some (.complex .f64 0 0) := (blk_cell BKg7.out 3).trans rfl; have fb20 := blk_frozen BKb2.out 0; have fb21 := blk_frozen BKb2.out 1; have fb22 := blk_frozen BKb2.out 2; have fb23 := blk_frozen BKb2.out 3; have hn72 := HN7.out; have hn73 := HN7.out.symm))
    refine bodyPost_ret (results_ct3 rfl _ _ b2 61 #[.bool false, .bool false, .slice none 0 0, .complex .f64 0 0] (0, 0) _ rfl (by refine blk_put (cs := #[.bool false, .bool false, .slice none 0 0, .complex .f64 0 0]) ?_ 3 _ rfl; refine blk_put (cs := #[.bool false, .bool false, .slice none 0 0, .complex .f64 0 0]) ?_ 2 _ rfl; refine blk_put (cs := #[.bool false, .bool false, .slice none 0 0, .complex .f64 0 0]) ?_ 1 _ rfl; refine blk_put (cs := #[.bool false, .bool false, .slice none 0 0, .complex .f64 0 0]) ?_ 0 _ rfl; exact BKb2.out) Try.underlying61 rfl (by kernel_rfl)) rfl ?_
    exact ⟨rfl, below_set (below_set (below_set (below_set (HBW.out) HG7.out.2.1) HG7.out.2.1) HG7.out.2.1) HG7.out.2.1⟩)

end Go.Proofs.Ytfjbhccapgnkiaa.P
