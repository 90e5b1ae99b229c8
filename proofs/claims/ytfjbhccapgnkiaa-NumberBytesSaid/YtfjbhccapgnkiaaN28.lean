import Derived.Test.YtfjbhccapgnkiaaN21
import Derived.Test.YtfjbhccapgnkiaaA4
import Derived.StillTailTactics
import Derived.IntWalk
namespace Go.Proofs.Ytfjbhccapgnkiaa.P
open Go.RowKit Go.Proofs.YtfjbhccapgnkiaaW.PrintWords Go.Proofs.YtfjbhccapgnkiaaW.PrintLast Go.Proofs.YtfjbhccapgnkiaaW.PrintMore
attribute [local go_sem] max2_int min2_int max_two min_two max_three min_three max_four min_four
set_option linter.unusedVariables false
set_option linter.unusedSimpArgs false

attribute [local go_sem] stC stF
/-! ### lapidaryref06.Get: what is refused; complex numbers -/
set_option maxHeartbeats 16000000 in
set_option maxRecDepth 100000 in
theorem ref_Get.nil (A : Option Addr) (c : Nat) (w : World) :
    Calls Try.prog 65 #[.slice A 0 c] w fun e w' => e = .returned (.tuple #[.agg #[.bool false, .bool false, .slice none 0 0, .float .f64 0, .float .f64 0], .int .i64 11]) ∧ Below w.heap.size w w' := by
  have hu24 := Try.underlying24
  have hu25 := Try.underlying25
  have hu61 := Try.underlying61
  have hu58 := Try.underlying58
  have HBW := Aside0.mk (Below.refl w.heap.size w)
  have Z := Aside0.mk (show w.heap.size ≤ w.heap.size from Nat.le_refl _)
  go_enter Try.func65, Try.ntmps65
  go_wp2_with (first
    | ((with_reducible refine gate_dst (N := 2) rfl ?_); (try (refine gate_guard (by rfl) ?_; dsimp only)); refine box_event ?hg (N := 2) ?hd (cs := #[.bool false, .bool false, .slice none 0 0, .float .f64 0, .float .f64 0]) (t := 58) ?hr ?_; (case hd => rfl); (case hg => rfl); (case hr => first | (go_simp; done) | (go_simp; rfl)); intro b2 hg wa1 hbox hb; have K_ := Kept.of_below hb (fun _ => False); replace Z := zA Z (K_.1); replace Z := zA Z (Nat.le_of_eq hg.symm); replace Z := zA Z (Nat.le_of_eq hg); replace Z := zA Z (blk_lt hbox); replace HBW := bS HBW hb; have BKb2 := Aside0.mk hbox; clear hb hbox hg K_; have zb20 : wa1.cell? ⟨b2, 0, none⟩ = some (.bool false) := (blk_cell BKb2.out 0).trans rfl; have zb21 : wa1.cell? ⟨b2, 1, none⟩ = some (.bool false) := (blk_cell BKb2.out 1).trans rfl; have zb22 : wa1.cell? ⟨b2, 2, none⟩ = some (.slice none 0 0) := (blk_cell BKb2.out 2).trans rfl; have zb23 : wa1.cell? ⟨b2, 3, none⟩ = some (.float .f64 0) := (blk_cell BKb2.out 3).trans rfl; have zb24 : wa1.cell? ⟨b2, 4, none⟩ = some (.float .f64 0) := (blk_cell BKb2.out 4).trans rfl; have fb20 : wa1.frozen? ⟨b2, 0, none⟩ = false := blk_frozen BKb2.out 0; have fb21 : wa1.frozen? ⟨b2, 1, none⟩ = false := blk_frozen BKb2.out 1; have fb22 : wa1.frozen? ⟨b2, 2, none⟩ = false := blk_frozen BKb2.out 2; have fb23 : wa1.frozen? ⟨b2, 3, none⟩ = false := blk_frozen BKb2.out 3; have fb24 : wa1.frozen? ⟨b2, 4, none⟩ = false := blk_frozen BKb2.out 4))
  refine bodyPost_ret (results_ct3 rfl _ _ b2 58 #[.bool false, .bool false, .slice none 0 0, .float .f64 0, .float .f64 0] (0, 0) _ rfl (by refine blk_put (cs := #[.bool false, .bool false, .slice none 0 0, .float .f64 0, .float .f64 0]) ?_ 4 _ rfl; refine blk_put (cs := #[.bool false, .bool false, .slice none 0 0, .float .f64 0, .float .f64 0]) ?_ 3 _ rfl; refine blk_put (cs := #[.bool false, .bool false, .slice none 0 0, .float .f64 0, .float .f64 0]) ?_ 2 _ rfl; refine blk_put (cs := #[.bool false, .bool false, .slice none 0 0, .float .f64 0, .float .f64 0]) ?_ 1 _ rfl; refine blk_put (cs := #[.bool false, .bool false, .slice none 0 0, .float .f64 0, .float .f64 0]) ?_ 0 _ rfl; exact BKb2.out) Try.underlying58 rfl (by kernel_rfl)) rfl ?_
  exact ⟨rfl, below_set (below_set (below_set (below_set (below_set (HBW.out) (by have hZ := Z.out; omega)) (by have hZ := Z.out; omega)) (by have hZ := Z.out; omega)) (by have hZ := Z.out; omega)) (by have hZ := Z.out; omega)⟩
set_option maxHeartbeats 16000000 in
set_option maxRecDepth 100000 in
theorem ref_Get.big (ad : Addr) (n c : Nat) (v : Int) (hn : ¬ ((n : Int) = 0)) (hv : 2 < v) (w : World) (hx : w.cell? ad = some (.int .u8 v)) :
    Calls Try.prog 65 #[.slice (some ad) n c] w fun e w' => e = .returned (.tuple #[.agg #[.bool false, .bool false, .slice none 0 0, .float .f64 0, .float .f64 0], .int .i64 11]) ∧ Below w.heap.size w w' := by
  have hu24 := Try.underlying24
  have hu25 := Try.underlying25
  have hu61 := Try.underlying61
  have hu58 := Try.underlying58
  have hn0 : ((n : Int) == 0) = false := beq_eq_false_iff_ne.2 hn
  have HN := Aside0.mk (show 0 < n from by omega)
  clear hn
  have hl0 := Aside0.mk (World.block_lt_of_cell? w _ hx)
  have n_ := Aside0.mk hx
  clear hx
  have hx := n_
  clear n_
  have HBW := Aside0.mk (Below.refl w.heap.size w)
  have Z := Aside0.mk (show w.heap.size ≤ w.heap.size from Nat.le_refl _)
  go_enter Try.func65, Try.ntmps65
  go_wp2_with (first
    | ((with_reducible refine gate_dst (N := 2) rfl ?_); (try (refine gate_guard (by rfl) ?_; dsimp only)); refine box_event ?hg (N := 2) ?hd (cs := #[.bool false, .bool false, .slice none 0 0, .float .f64 0, .float .f64 0]) (t := 58) ?hr ?_; (case hd => rfl); (case hg => rfl); (case hr => first | (go_simp; done) | (go_simp; rfl)); intro b2 hg wa1 hbox hb; have K_ := Kept.of_below hb (fun _ => False); replace Z := zA Z (K_.1); replace Z := zA Z (Nat.le_of_eq hg.symm); replace Z := zA Z (Nat.le_of_eq hg); replace Z := zA Z (blk_lt hbox); replace HBW := bS HBW hb; have BKb2 := Aside0.mk hbox; clear hb hbox hg K_; have zb20 : wa1.cell? ⟨b2, 0, none⟩ = some (.bool false) := (blk_cell BKb2.out 0).trans rfl; have zb21 : wa1.cell? ⟨b2, 1, none⟩ = some (.bool false) := (blk_cell BKb2.out 1).trans rfl; have zb22 : wa1.cell? ⟨b2, 2, none⟩ = some (.slice none 0 0) := (blk_cell BKb2.out 2).trans rfl; have zb23 : wa1.cell? ⟨b2, 3, none⟩ = some (.float .f64 0) := (blk_cell BKb2.out 3).trans rfl; have zb24 : wa1.cell? ⟨b2, 4, none⟩ = some (.float .f64 0) := (blk_cell BKb2.out 4).trans rfl; have fb20 : wa1.frozen? ⟨b2, 0, none⟩ = false := blk_frozen BKb2.out 0; have fb21 : wa1.frozen? ⟨b2, 1, none⟩ = false := blk_frozen BKb2.out 1; have fb22 : wa1.frozen? ⟨b2, 2, none⟩ = false := blk_frozen BKb2.out 2; have fb23 : wa1.frozen? ⟨b2, 3, none⟩ = false := blk_frozen BKb2.out 3; have fb24 : wa1.frozen? ⟨b2, 4, none⟩ = false := blk_frozen BKb2.out 4; have hx1 : wa1.cell? ad = some (.int .u8 v) := (HBW.out.cell hl0.out).trans hx.out; have hn1 := HN.out))
  refine bodyPost_ret (results_ct3 rfl _ _ b2 58 #[.bool false, .bool false, .slice none 0 0, .float .f64 0, .float .f64 0] (0, 0) _ rfl (by refine blk_put (cs := #[.bool false, .bool false, .slice none 0 0, .float .f64 0, .float .f64 0]) ?_ 4 _ rfl; refine blk_put (cs := #[.bool false, .bool false, .slice none 0 0, .float .f64 0, .float .f64 0]) ?_ 3 _ rfl; refine blk_put (cs := #[.bool false, .bool false, .slice none 0 0, .float .f64 0, .float .f64 0]) ?_ 2 _ rfl; refine blk_put (cs := #[.bool false, .bool false, .slice none 0 0, .float .f64 0, .float .f64 0]) ?_ 1 _ rfl; refine blk_put (cs := #[.bool false, .bool false, .slice none 0 0, .float .f64 0, .float .f64 0]) ?_ 0 _ rfl; exact BKb2.out) Try.underlying58 rfl (by kernel_rfl)) rfl ?_
  exact ⟨rfl, below_set (below_set (below_set (below_set (below_set (HBW.out) (by have hZ := Z.out; omega)) (by have hZ := Z.out; omega)) (by have hZ := Z.out; omega)) (by have hZ := Z.out; omega)) (by have hZ := Z.out; omega)⟩
set_option maxHeartbeats 16000000 in
set_option maxRecDepth 100000 in
theorem ref_Get.two (ad : Addr) (n c : Nat) (v : Int) (hn : ¬ ((n : Int) = 0)) (hv : v = 2) (h17 : ¬ ((n : Int) = 17)) (w : World) (hx : w.cell? ad = some (.int .u8 v)) :
    Calls Try.prog 65 #[.slice (some ad) n c] w fun e w' => e = .returned (.tuple #[.agg #[.bool false, .bool false, .slice none 0 0, .float .f64 0, .float .f64 0], .int .i64 11]) ∧ Below w.heap.size w w' := by
  have hu24 := Try.underlying24
  have hu25 := Try.underlying25
  have hu61 := Try.underlying61
  have hu58 := Try.underlying58
  have hn0 : ((n : Int) == 0) = false := beq_eq_false_iff_ne.2 hn
  have HN := Aside0.mk (show 0 < n from by omega)
  subst hv
  have h17b : ((n : Int) != 17) = true := by simpa using h17
  clear h17
  clear hn
  have hl0 := Aside0.mk (World.block_lt_of_cell? w _ hx)
  have n_ := Aside0.mk hx
  clear hx
  have hx := n_
  clear n_
  have HBW := Aside0.mk (Below.refl w.heap.size w)
  have Z := Aside0.mk (show w.heap.size ≤ w.heap.size from Nat.le_refl _)
  go_enter Try.func65, Try.ntmps65
  go_wp2_with (first
    | ((with_reducible refine gate_dst (N := 2) rfl ?_); (try (refine gate_guard (by rfl) ?_; dsimp only)); refine box_event ?hg (N := 2) ?hd (cs := #[.bool false, .bool false, .slice none 0 0, .float .f64 0, .float .f64 0]) (t := 58) ?hr ?_; (case hd => rfl); (case hg => rfl); (case hr => first | (go_simp; done) | (go_simp; rfl)); intro b2 hg wa1 hbox hb; have K_ := Kept.of_below hb (fun _ => False); replace Z := zA Z (K_.1); replace Z := zA Z (Nat.le_of_eq hg.symm); replace Z := zA Z (Nat.le_of_eq hg); replace Z := zA Z (blk_lt hbox); replace HBW := bS HBW hb; have BKb2 := Aside0.mk hbox; clear hb hbox hg K_; have zb20 : wa1.cell? ⟨b2, 0, none⟩ = some (.bool false) := (blk_cell BKb2.out 0).trans rfl; have zb21 : wa1.cell? ⟨b2, 1, none⟩ = some (.bool false) := (blk_cell BKb2.out 1).trans rfl; have zb22 : wa1.cell? ⟨b2, 2, none⟩ = some (.slice none 0 0) := (blk_cell BKb2.out 2).trans rfl; have zb23 : wa1.cell? ⟨b2, 3, none⟩ = some (.float .f64 0) := (blk_cell BKb2.out 3).trans rfl; have zb24 : wa1.cell? ⟨b2, 4, none⟩ = some (.float .f64 0) := (blk_cell BKb2.out 4).trans rfl; have fb20 : wa1.frozen? ⟨b2, 0, none⟩ = false := blk_frozen BKb2.out 0; have fb21 : wa1.frozen? ⟨b2, 1, none⟩ = false := blk_frozen BKb2.out 1; have fb22 : wa1.frozen? ⟨b2, 2, none⟩ = false := blk_frozen BKb2.out 2; have fb23 : wa1.frozen? ⟨b2, 3, none⟩ = false := blk_frozen BKb2.out 3; have fb24 : wa1.frozen? ⟨b2, 4, none⟩ = false := blk_frozen BKb2.out 4; have hx1 : wa1.cell? ad = some (.int .u8 2) := (HBW.out.cell hl0.out).trans hx.out; have hn1 := HN.out))
  refine bodyPost_ret (results_ct3 rfl _ _ b2 58 #[.bool false, .bool false, .slice none 0 0, .float .f64 0, .float .f64 0] (0, 0) _ rfl (by refine blk_put (cs := #[.bool false, .bool false, .slice none 0 0, .float .f64 0, .float .f64 0]) ?_ 4 _ rfl; refine blk_put (cs := #[.bool false, .bool false, .slice none 0 0, .float .f64 0, .float .f64 0]) ?_ 3 _ rfl; refine blk_put (cs := #[.bool false, .bool false, .slice none 0 0, .float .f64 0, .float .f64 0]) ?_ 2 _ rfl; refine blk_put (cs := #[.bool false, .bool false, .slice none 0 0, .float .f64 0, .float .f64 0]) ?_ 1 _ rfl; refine blk_put (cs := #[.bool false, .bool false, .slice none 0 0, .float .f64 0, .float .f64 0]) ?_ 0 _ rfl; exact BKb2.out) Try.underlying58 rfl (by kernel_rfl)) rfl ?_
  exact ⟨rfl, below_set (below_set (below_set (below_set (below_set (HBW.out) (by have hZ := Z.out; omega)) (by have hZ := Z.out; omega)) (by have hZ := Z.out; omega)) (by have hZ := Z.out; omega)) (by have hZ := Z.out; omega)⟩
theorem lit_event8 {rest : List Oper} {ops : Array Oper} {Q : Exit → Act → World → Prop} {o : Oper} {a : Act} {W : World} {N : Nat} {cs : Array Value} (hg : o.guard = none) (hd : o.dst = some N)
    (hr : (execOp a.eval o).run Try.prog W = .ok (.value (.slice (some ⟨W.heap.size, 0, none⟩) cs.size cs.size)) (W.alloc (.cells cs 115)))
    (h : ∀ g, g = W.heap.size → ∀ w1, w1.heap[g]? = some (.cells cs 115 (0, 0)) → Below W.heap.size W w1 → wpList Try.prog ops Q rest (a.put (some N) (.slice (some ⟨g, 0, none⟩) cs.size cs.size)) w1) : wpList Try.prog ops Q (o :: rest) a W := by
  rw [← hd] at h
  exact Kd.event_run hg hr (h _ rfl _ (blk_new W _) (below_alloc (Below.refl _ _) _))
set_option maxHeartbeats 16000000 in
set_option maxRecDepth 100000 in
theorem ref_Get.pair (ad : Addr) (c : Nat) (l t : List Int) (h0 : rd l 0 = 2) (ht : t = l.drop 1) (w : World) (hr : Kd.C (Kd.int .u8) w (some ad) l.length l) (hc : l.length ≤ c) (hl : l.length = 17) (hb : ∀ x ∈ l, 0 ≤ x ∧ x < 256) :
    Calls Try.prog 65 #[.slice (some ad) l.length c] w fun e w' => e = .returned (.tuple #[.agg #[.bool true, .bool false, .slice none 0 0, .float .f64 (w8 t 0 8).toNat, .float .f64 (w8 t 8 8).toNat], .int .i64 0]) ∧ Below w.heap.size w w' := by
  have hu24 := Try.underlying24
  have hu25 := Try.underlying25
  have hu61 := Try.underlying61
  have hu58 := Try.underlying58
  obtain ⟨ad_, e_, hx⟩ := first_byte hr (by omega)
  cases e_
  rw [h0] at hx
  have hx := Aside0.mk hx
  clear h0
  have hl0 := Aside0.mk (World.block_lt_of_cell? w _ hx.out)
  have HRD := Aside0.mk (show ∀ k : Nat, k < 16 → rd l ((k + 1 : Nat) : Int) = rd t (k : Int) from fun k hk => by rw [ht]; unfold rd; rw [Int.toNat_natCast, Int.toNat_natCast]; simp [List.getD_eq_getElem?_getD, Nat.add_comm])
  have HT16 := Aside0.mk (show t.length = 16 from by rw [ht, List.length_drop, hl])
  have hbt := Aside0.mk (show ∀ x ∈ t, 0 ≤ x ∧ x < 256 from fun x hx => hb x (List.mem_of_mem_drop (by rw [← ht]; exact hx)))
  have hrl := Aside0.mk hr
  rw [hl] at hrl ⊢
  clear ht
  have n_ := Aside0.mk hr
  clear hr
  have hr := n_
  clear n_
  have n_ := Aside0.mk hc
  clear hc
  have hc := n_
  clear n_
  have n_ := Aside0.mk hl
  clear hl
  have hl := n_
  clear n_
  have n_ := Aside0.mk hb
  clear hb
  have hb := n_
  clear n_
  have HBW := Aside0.mk (Below.refl w.heap.size w)
  have Z := Aside0.mk (show w.heap.size ≤ w.heap.size from Nat.le_refl _)
  go_enter Try.func65, Try.ntmps65
  go_wp2_with (first
    | ((with_reducible refine gate_dst (N := 2) rfl ?_); (try (refine gate_guard (by rfl) ?_; dsimp only)); refine box_event ?hg (N := 2) ?hd (cs := #[.bool false, .bool false, .slice none 0 0, .float .f64 0, .float .f64 0]) (t := 58) ?hr ?_; (case hd => rfl); (case hg => rfl); (case hr => first | (go_simp; done) | (go_simp; rfl)); intro b2 hg wa1 hbox hb; have K_ := Kept.of_below hb (fun _ => False); replace Z := zA Z (K_.1); replace Z := zA Z (Nat.le_of_eq hg.symm); replace Z := zA Z (Nat.le_of_eq hg); replace Z := zA Z (blk_lt hbox); replace HBW := bS HBW hb; have BKb2 := Aside0.mk hbox; clear hb hbox hg K_; have zb20 : wa1.cell? ⟨b2, 0, none⟩ = some (.bool false) := (blk_cell BKb2.out 0).trans rfl; have zb21 : wa1.cell? ⟨b2, 1, none⟩ = some (.bool false) := (blk_cell BKb2.out 1).trans rfl; have zb22 : wa1.cell? ⟨b2, 2, none⟩ = some (.slice none 0 0) := (blk_cell BKb2.out 2).trans rfl; have zb23 : wa1.cell? ⟨b2, 3, none⟩ = some (.float .f64 0) := (blk_cell BKb2.out 3).trans rfl; have zb24 : wa1.cell? ⟨b2, 4, none⟩ = some (.float .f64 0) := (blk_cell BKb2.out 4).trans rfl; have fb20 : wa1.frozen? ⟨b2, 0, none⟩ = false := blk_frozen BKb2.out 0; have fb21 : wa1.frozen? ⟨b2, 1, none⟩ = false := blk_frozen BKb2.out 1; have fb22 : wa1.frozen? ⟨b2, 2, none⟩ = false := blk_frozen BKb2.out 2; have fb23 : wa1.frozen? ⟨b2, 3, none⟩ = false := blk_frozen BKb2.out 3; have fb24 : wa1.frozen? ⟨b2, 4, none⟩ = false := blk_frozen BKb2.out 4; have hx1 : wa1.cell? ad = some (.int .u8 2) := (HBW.out.cell hl0.out).trans hx.out)
    | ((with_reducible refine gate_dst (N := 32) rfl ?_); (try (refine gate_guard (by rfl) ?_; dsimp only)); refine lit_event8 ?hg (N := 32) ?hd (cs := #[.int .u64 0, .int .u64 0]) ?hr ?_; (case hd => rfl); (case hg => rfl); (case hr => first | (go_simp; done) | (go_simp; rfl)); intro g32 hg wa2 hbox hb; have K_ := Kept.of_below hb (fun _ => False); replace BKb2 := mvB BKb2 K_; replace Z := zA Z (K_.1); replace Z := zA Z (Nat.le_of_eq hg.symm); replace Z := zA Z (Nat.le_of_eq hg); replace Z := zA Z (blk_lt hbox); replace HBW := bS HBW hb; have BKg32 := Aside0.mk hbox; clear hb hbox hg K_; clear zb20 zb21 zb22 zb23 zb24 fb20 fb21 fb22 fb23 fb24; have zb20 : wa2.cell? ⟨b2, 0, none⟩ = some (.bool false) := (blk_cell BKb2.out 0).trans rfl; have zb21 : wa2.cell? ⟨b2, 1, none⟩ = some (.bool false) := (blk_cell BKb2.out 1).trans rfl; have zb22 : wa2.cell? ⟨b2, 2, none⟩ = some (.slice none 0 0) := (blk_cell BKb2.out 2).trans rfl; have zb23 : wa2.cell? ⟨b2, 3, none⟩ = some (.float .f64 0) := (blk_cell BKb2.out 3).trans rfl; have zb24 : wa2.cell? ⟨b2, 4, none⟩ = some (.float .f64 0) := (blk_cell BKb2.out 4).trans rfl; have fb20 : wa2.frozen? ⟨b2, 0, none⟩ = false := blk_frozen BKb2.out 0; have fb21 : wa2.frozen? ⟨b2, 1, none⟩ = false := blk_frozen BKb2.out 1; have fb22 : wa2.frozen? ⟨b2, 2, none⟩ = false := blk_frozen BKb2.out 2; have fb23 : wa2.frozen? ⟨b2, 3, none⟩ = false := blk_frozen BKb2.out 3; have fb24 : wa2.frozen? ⟨b2, 4, none⟩ = false := blk_frozen BKb2.out 4; have nb2g32 : b2 ≠ g32 := (by have hZ := Z.out; omega); have ng32b2 := nb2g32.symm; have zg320 : wa2.cell? ⟨g32, 0, none⟩ = some (.int .u64 0) := (blk_cell BKg32.out 0).trans rfl; have zg321 : wa2.cell? ⟨g32, 1, none⟩ = some (.int .u64 0) := (blk_cell BKg32.out 1).trans rfl; have fg320 : wa2.frozen? ⟨g32, 0, none⟩ = false := blk_frozen BKg32.out 0; have fg321 : wa2.frozen? ⟨g32, 1, none⟩ = false := blk_frozen BKg32.out 1))
  clear hx1
  have HNE := Aside0.mk (show b2 ≠ g32 from by have hZ := Z.out; omega)
  have HG4 := Aside0.mk (show w.heap.size ≤ g32 from by have hZ := Z.out; omega)
  have HG2 := Aside0.mk (show w.heap.size ≤ b2 from by have hZ := Z.out; omega)
  go_loopw [5] (fun i w' => ∃ (x : Int) (k : Nat) (p q : Int), i = .int .i64 x ∧ Aside0 (x = (k : Int) ∧ k ≤ 16 ∧ p = w8 t 0 k ∧ q = w8 t 8 (k - 8)) ∧ Aside0 (w'.heap[g32]? = some (.cells #[.int .u64 p, .int .u64 q] 115 (0, 0))) ∧ Aside0 (w'.heap[b2]? = some (.cells #[.bool false, .bool false, .slice none 0 0, .float .f64 0, .float .f64 0] 58 (0, 0))) ∧ Aside0 (Below w.heap.size w w')) (fun i _ => (16 - intOf i).toNat)
  case atStart => exact ⟨0, 0, 0, 0, rfl, ⟨rfl, by decide, (w8_zero _ _).symm, (w8_zero _ _).symm⟩, BKg32, BKb2, HBW⟩
  case round =>
    clear BKg32 BKb2 HBW hx hr zb20 zb21 zb22 zb23 zb24 fb20 fb21 fb22 fb23 fb24 nb2g32 ng32b2 zg320 zg321 fg320 fg321
    obtain ⟨x, k, p, q, rfl, HK, B4, B2, HBr⟩ := hrel
    obtain ⟨wo, rfl⟩ : ∃ wo : World, wo = wr := ⟨_, rfl⟩
    have hz0 : wo.cell? ⟨g32, 0, none⟩ = some (.int .u64 p) := (blk_cell B4.out 0).trans rfl
    have hz1 : wo.cell? ⟨g32, 1, none⟩ = some (.int .u64 q) := (blk_cell B4.out 1).trans rfl
    have hf0 : wo.frozen? ⟨g32, 0, none⟩ = false := blk_frozen B4.out 0
    have hf1 : wo.frozen? ⟨g32, 1, none⟩ = false := blk_frozen B4.out 1
    by_cases hlt : k < 16
    · have g1 : 0 ≤ x := by have := HK.out.1; omega
      have g2 : x < 16 := by have := HK.out.1; omega
      obtain ⟨ad2, e2, hc2⟩ := Kd.at_int hrl.out (1 + x) (by omega) (by omega)
      have hc2 := (HBr.out.cell (World.block_lt_of_cell? w _ hc2)).trans hc2
      cases e2
      have hrd : rd l (1 + x) = rd t x := by have h := HRD.out k hlt; have e := HK.out.1; rw [e, show (1 + (k : Int)) = ((k + 1 : Nat) : Int) from by omega]; exact h
      rw [hrd] at hc2
      clear hrd
      have g3 : 0 ≤ 1 + x := by omega
      have g4 : 1 + x < 17 := by omega
      have gw0 : IntKind.i64.wrap 0 = 0 := by decide
      have gw1 : IntKind.i64.wrap 1 = 1 := by decide
      have gw : IntKind.i64.wrap (1 + x) = 1 + x := IntWalk.i64_in _ (by omega)
      by_cases h8 : k < 8
      · have hq : x / 8 = 0 := by have := HK.out.1; omega
        have hq2 : x.tdiv 8 = 0 := by rw [Int.tdiv_eq_ediv_of_nonneg g1]; exact hq
        clear hlt h8
        have HV := Aside0.mk (w8_step t hbt.out 0 k x (by have := HK.out; omega) (by have := HK.out; have := HT16.out; omega) (by have := HK.out; omega))
        have HP := Aside0.mk (show p = w8 t 0 k from HK.out.2.2.1)
        go_wp2
        refine still_letter 17 (by kernel_rfl) (by kernel_rfl) ?_
        intro wd hwd hbd
        simp only [List.take_succ_cons, List.take_zero, List.drop_succ_cons, List.drop_zero]
        have B4d := Aside0.mk (blk_below B4.out hbd)
        have B2d := Aside0.mk (blk_below B2.out hbd)
        have HBd := Aside0.mk (below_step HBr.out hbd)
        have hz0 : wd.cell? ⟨g32, 0, none⟩ = some (.int .u64 p) := (blk_cell B4d.out 0).trans rfl
        have hz1 : wd.cell? ⟨g32, 1, none⟩ = some (.int .u64 q) := (blk_cell B4d.out 1).trans rfl
        have hf0 : wd.frozen? ⟨g32, 0, none⟩ = false := blk_frozen B4d.out 0
        have hf1 : wd.frozen? ⟨g32, 1, none⟩ = false := blk_frozen B4d.out 1
        have hc2 := (hbd.cell (World.block_lt_of_cell? wo _ hc2)).trans hc2
        clear hwd hbd
        repeat still_step
        refine wpStill_nil ?_
        go_wp2
        go_roundw
        case rel => exact ⟨x + 1, k + 1, w8 t 0 (k + 1), q, rfl, ⟨by have := HK.out.1; omega, by have := HK.out.1; omega, rfl, by have h := HK.out.2.2.2; rw [show k + 1 - 8 = k - 8 from by have := HK.out.1; omega]; exact h⟩, ⟨by rw [HP.out, HV.out]; refine blk_put (cs := #[.int .u64 p, .int .u64 q]) ?_ 0 _ rfl; exact B4d.out⟩, ⟨(Below.heap_setCell _ _ _ _ HNE.out).trans B2d.out⟩, ⟨below_set HBd.out HG4.out⟩⟩
        case measure => simp [intOf]; omega
      · have hq : x / 8 = 1 := by have := HK.out.1; omega
        have hq2 : x.tdiv 8 = 1 := by rw [Int.tdiv_eq_ediv_of_nonneg g1]; exact hq
        have HV := Aside0.mk (w8_step t hbt.out 8 (k - 8) x (by have := HK.out; omega) (by have := HK.out; have := HT16.out; omega) (by have := HK.out; omega))
        have HP := Aside0.mk (show q = w8 t 8 (k - 8) from HK.out.2.2.2)
        have HL8 := Aside0.mk (show 8 ≤ k from by omega)
        clear hlt h8
        go_wp2
        refine still_letter 17 (by kernel_rfl) (by kernel_rfl) ?_
        intro wd hwd hbd
        simp only [List.take_succ_cons, List.take_zero, List.drop_succ_cons, List.drop_zero]
        have B4d := Aside0.mk (blk_below B4.out hbd)
        have B2d := Aside0.mk (blk_below B2.out hbd)
        have HBd := Aside0.mk (below_step HBr.out hbd)
        have hz0 : wd.cell? ⟨g32, 0, none⟩ = some (.int .u64 p) := (blk_cell B4d.out 0).trans rfl
        have hz1 : wd.cell? ⟨g32, 1, none⟩ = some (.int .u64 q) := (blk_cell B4d.out 1).trans rfl
        have hf0 : wd.frozen? ⟨g32, 0, none⟩ = false := blk_frozen B4d.out 0
        have hf1 : wd.frozen? ⟨g32, 1, none⟩ = false := blk_frozen B4d.out 1
        have hc2 := (hbd.cell (World.block_lt_of_cell? wo _ hc2)).trans hc2
        clear hwd hbd
        repeat still_step
        refine wpStill_nil ?_
        go_wp2
        go_roundw
        case rel => exact ⟨x + 1, k + 1, p, w8 t 8 (k - 8 + 1), rfl, ⟨by have := HK.out.1; omega, by have := HK.out.1; omega, by have h := HK.out.2.2.1; rw [w8_more _ _ _ HL8.out] at h; rw [w8_more _ _ _ (Nat.le_trans HL8.out (Nat.le_succ k))]; exact h, by rw [show k + 1 - 8 = k - 8 + 1 from by have := HL8.out; omega]⟩, ⟨by rw [HP.out, HV.out]; refine blk_put (cs := #[.int .u64 p, .int .u64 q]) ?_ 1 _ rfl; exact B4d.out⟩, ⟨(Below.heap_setCell _ _ _ _ HNE.out).trans B2d.out⟩, ⟨below_set HBd.out HG4.out⟩⟩
        case measure => simp [intOf]; omega
    · obtain rfl : p = w8 t 0 8 := by have h := HK.out.2.2.1; rw [w8_more _ _ _ (by have := HK.out.1; omega)] at h; exact h
      obtain rfl : q = w8 t 8 8 := by have h := HK.out.2.2.2; rw [w8_more _ _ _ (by have := HK.out.1; omega)] at h; exact h
      have g2 : ¬ x < 16 := by have := HK.out.1; omega
      clear hlt
      go_wp2
      have h104 := fun n w => f64from_run n w
      refine still_letter 8 (by kernel_rfl) (by kernel_rfl) ?_
      intro wd hwd hbd
      simp only [List.take_succ_cons, List.take_zero, List.drop_succ_cons, List.drop_zero]
      have B4d := Aside0.mk (blk_below B4.out hbd)
      have B2d := Aside0.mk (blk_below B2.out hbd)
      have HBd := Aside0.mk (below_step HBr.out hbd)
      have hz0 : wd.cell? ⟨g32, 0, none⟩ = some (.int .u64 (w8 t 0 8)) := (blk_cell B4d.out 0).trans rfl
      have hz1 : wd.cell? ⟨g32, 1, none⟩ = some (.int .u64 (w8 t 8 8)) := (blk_cell B4d.out 1).trans rfl
      clear hwd hbd
      repeat still_step
      refine wpStill_nil ?_
      go_wp2_with (first | ((with_reducible refine gate_dst (N := 62) rfl ?_); refine goesL_ (some 62) rfl rfl Try.func106 (by kernel_rfl) rfl #[.float .f64 (w8 t 0 8).toNat, .float .f64 (w8 t 8 8).toNat] rfl (by (try simp only [List.map_toArray, List.map_cons, List.map_nil]); first | done | rfl) ?_; refine (ref_of.calls _ _ _).mono ?_; rintro e wr ⟨rfl, hb⟩; refine ⟨_, rfl, ?_⟩; have HB_ := Aside0.mk (below_step HBd.out hb); have B2e := Aside0.mk (blk_below B2d.out hb); have y0 : wr.cell? ⟨b2, 0, none⟩ = some (.bool false) := (blk_cell B2e.out 0).trans rfl; have y1 : wr.cell? ⟨b2, 1, none⟩ = some (.bool false) := (blk_cell B2e.out 1).trans rfl; have y2 : wr.cell? ⟨b2, 2, none⟩ = some (.slice none 0 0) := (blk_cell B2e.out 2).trans rfl; have y3 : wr.cell? ⟨b2, 3, none⟩ = some (.float .f64 0) := (blk_cell B2e.out 3).trans rfl; have y4 : wr.cell? ⟨b2, 4, none⟩ = some (.float .f64 0) := (blk_cell B2e.out 4).trans rfl; have q0 := blk_frozen B2e.out 0; have q1 := blk_frozen B2e.out 1; have q2 := blk_frozen B2e.out 2; have q3 := blk_frozen B2e.out 3; have q4 := blk_frozen B2e.out 4; clear hb))
      all_goals (
        refine bodyPost_ret (results_ct3 rfl _ _ b2 58 #[.bool true, .bool false, .slice none 0 0, .float .f64 (w8 t 0 8).toNat, .float .f64 (w8 t 8 8).toNat] (0, 0) _ rfl (by refine blk_put (cs := #[.bool true, .bool false, .slice none 0 0, .float .f64 (w8 t 0 8).toNat, .float .f64 0]) ?_ 4 _ rfl; refine blk_put (cs := #[.bool true, .bool false, .slice none 0 0, .float .f64 0, .float .f64 0]) ?_ 3 _ rfl; refine blk_put (cs := #[.bool true, .bool false, .slice none 0 0, .float .f64 0, .float .f64 0]) ?_ 2 _ rfl; refine blk_put (cs := #[.bool true, .bool false, .slice none 0 0, .float .f64 0, .float .f64 0]) ?_ 1 _ rfl; refine blk_put (cs := #[.bool false, .bool false, .slice none 0 0, .float .f64 0, .float .f64 0]) ?_ 0 _ rfl; exact B2e.out) Try.underlying58 rfl (by kernel_rfl)) rfl ?_
        exact ⟨rfl, below_set (below_set (below_set (below_set (below_set HB_.out HG2.out) HG2.out) HG2.out) HG2.out) HG2.out⟩)

attribute [local go_sem] stC stF
/-! ### lapidaryref06.Get: whole numbers -/
theorem bsame_zero : (bsame 0 0 && bsame 0 0) = true := by unfold bsame; simp
set_option maxHeartbeats 16000000 in
set_option maxRecDepth 100000 in
theorem ref_Get.whole (ad : Addr) (c : Nat) (l t : List Int) (v : Int) (s : Bool) (hn : 0 < l.length) (hv : (v = 0 ∧ s = false) ∨ (v = 1 ∧ s = true)) (h0 : rd l 0 = v) (ht : t = l.drop 1) (w : World) (hr : Kd.C (Kd.int .u8) w (some ad) l.length l) (hc : l.length ≤ c) (hl : l.length ≤ 140737488351232) (hw : lapidaryref02_Right.f s t = some true) :
    Calls Try.prog 65 #[.slice (some ad) l.length c] w fun e w' => ∃ v_ : Value, e = .returned (.tuple #[.agg #[.bool false, .bool s, v_, .float .f64 0, .float .f64 0], .int .i64 0]) ∧ Kd.R (Kd.int .u8) 5 w' w.heap.size (fun _ => True) v_ t ∧ Below w.heap.size w w' := by
  have hu24 := Try.underlying24
  have hu25 := Try.underlying25
  have hu61 := Try.underlying61
  have hu58 := Try.underlying58
  obtain ⟨ad_, e_, hx⟩ := first_byte hr (by omega)
  cases e_
  rw [h0] at hx
  have hx := Aside0.mk hx
  clear h0
  obtain ⟨A1, hcut, hrt⟩ := cut1 hr (by omega) hc
  rw [← ht] at hrt
  have hrt := Aside0.mk hrt
  have hl0 := Aside0.mk (World.block_lt_of_cell? w _ hx.out)
  have HTL := Aside0.mk (show t.length = l.length - 1 from by rw [ht, List.length_drop])
  rw [← HTL.out] at hcut
  have HC1 := Aside0.mk (show t.length ≤ c - 1 from by have := HTL.out; omega)
  have hn0 : ((l.length : Int) == 0) = false := beq_eq_false_iff_ne.2 (by omega)
  have HN := Aside0.mk (show 0 < l.length from by omega)
  have HTM := Aside0.mk (show t.length ≤ 140737488351232 from by have := HTL.out; omega)
  clear ht hn
  have n_ := Aside0.mk hr
  clear hr
  have hr := n_
  clear n_
  have n_ := Aside0.mk hc
  clear hc
  have hc := n_
  clear n_
  have n_ := Aside0.mk hl
  clear hl
  have hl := n_
  clear n_
  have n_ := Aside0.mk hw
  clear hw
  have hw := n_
  clear n_
  have HBW := Aside0.mk (Below.refl w.heap.size w)
  have Z := Aside0.mk (show w.heap.size ≤ w.heap.size from Nat.le_refl _)
  have k1 : decide (2 < v) = false := decide_eq_false (by rcases hv with ⟨rfl, _⟩ | ⟨rfl, _⟩ <;> decide)
  have k2 : (v == 2) = false := by rcases hv with ⟨rfl, _⟩ | ⟨rfl, _⟩ <;> rfl
  have k3 : (v == 1) = s := by rcases hv with ⟨rfl, rfl⟩ | ⟨rfl, rfl⟩ <;> rfl
  clear hv
  have hx0 := hx.out
  go_enter Try.func65, Try.ntmps65
  go_wp2_with (first
    | ((with_reducible refine gate_dst (N := 2) rfl ?_); (try (refine gate_guard (by rfl) ?_; dsimp only)); refine box_event ?hg (N := 2) ?hd (cs := #[.bool false, .bool false, .slice none 0 0, .float .f64 0, .float .f64 0]) (t := 58) ?hr ?_; (case hd => rfl); (case hg => rfl); (case hr => first | (go_simp; done) | (go_simp; rfl)); intro b2 hg wa1 hbox hb; have K_ := Kept.of_below hb (fun _ => False); replace Z := zA Z (K_.1); replace Z := zA Z (Nat.le_of_eq hg.symm); replace Z := zA Z (Nat.le_of_eq hg); replace Z := zA Z (blk_lt hbox); replace HBW := bS HBW hb; have BKb2 := Aside0.mk hbox; clear hb hbox hg K_; have zb20 : wa1.cell? ⟨b2, 0, none⟩ = some (.bool false) := (blk_cell BKb2.out 0).trans rfl; have zb21 : wa1.cell? ⟨b2, 1, none⟩ = some (.bool false) := (blk_cell BKb2.out 1).trans rfl; have zb22 : wa1.cell? ⟨b2, 2, none⟩ = some (.slice none 0 0) := (blk_cell BKb2.out 2).trans rfl; have zb23 : wa1.cell? ⟨b2, 3, none⟩ = some (.float .f64 0) := (blk_cell BKb2.out 3).trans rfl; have zb24 : wa1.cell? ⟨b2, 4, none⟩ = some (.float .f64 0) := (blk_cell BKb2.out 4).trans rfl; have fb20 : wa1.frozen? ⟨b2, 0, none⟩ = false := blk_frozen BKb2.out 0; have fb21 : wa1.frozen? ⟨b2, 1, none⟩ = false := blk_frozen BKb2.out 1; have fb22 : wa1.frozen? ⟨b2, 2, none⟩ = false := blk_frozen BKb2.out 2; have fb23 : wa1.frozen? ⟨b2, 3, none⟩ = false := blk_frozen BKb2.out 3; have fb24 : wa1.frozen? ⟨b2, 4, none⟩ = false := blk_frozen BKb2.out 4; replace hx0 := (HBW.out.cell hl0.out).trans hx0; have hn1 := HN.out)
    | ((with_reducible refine gate_dst (N := 6) rfl ?_); (try (refine gate_guard (by rfl) ?_; dsimp only)); refine box_event ?hg (N := 6) ?hd (cs := #[.bool false, .bool false, .slice none 0 0, .float .f64 0, .float .f64 0]) (t := 58) ?hr ?_; (case hd => rfl); (case hg => rfl); (case hr => first | (go_simp; done) | (go_simp; rfl)); intro b6 hg wa2 hbox hb; have K_ := Kept.of_below hb (fun _ => False); replace BKb2 := mvB BKb2 K_; replace Z := zA Z (K_.1); replace Z := zA Z (Nat.le_of_eq hg.symm); replace Z := zA Z (Nat.le_of_eq hg); replace Z := zA Z (blk_lt hbox); have BKb6 := Aside0.mk hbox; have PB_ := Aside0.mk hb; have PG_ := Aside0.mk (Nat.le_of_eq hg.symm); clear hb hbox hg K_; clear zb20 zb21 zb22 zb23 zb24 fb20 fb21 fb22 fb23 fb24; have zb20 : wa2.cell? ⟨b2, 0, none⟩ = some (.bool false) := (blk_cell BKb2.out 0).trans rfl; have zb21 : wa2.cell? ⟨b2, 1, none⟩ = some (.bool false) := (blk_cell BKb2.out 1).trans rfl; have zb22 : wa2.cell? ⟨b2, 2, none⟩ = some (.slice none 0 0) := (blk_cell BKb2.out 2).trans rfl; have zb23 : wa2.cell? ⟨b2, 3, none⟩ = some (.float .f64 0) := (blk_cell BKb2.out 3).trans rfl; have zb24 : wa2.cell? ⟨b2, 4, none⟩ = some (.float .f64 0) := (blk_cell BKb2.out 4).trans rfl; have fb20 : wa2.frozen? ⟨b2, 0, none⟩ = false := blk_frozen BKb2.out 0; have fb21 : wa2.frozen? ⟨b2, 1, none⟩ = false := blk_frozen BKb2.out 1; have fb22 : wa2.frozen? ⟨b2, 2, none⟩ = false := blk_frozen BKb2.out 2; have fb23 : wa2.frozen? ⟨b2, 3, none⟩ = false := blk_frozen BKb2.out 3; have fb24 : wa2.frozen? ⟨b2, 4, none⟩ = false := blk_frozen BKb2.out 4; have nb2b6 : b2 ≠ b6 := (by have hZ := Z.out; omega); have nb6b2 := nb2b6.symm; have zb60 : wa2.cell? ⟨b6, 0, none⟩ = some (.bool false) := (blk_cell BKb6.out 0).trans rfl; have zb61 : wa2.cell? ⟨b6, 1, none⟩ = some (.bool false) := (blk_cell BKb6.out 1).trans rfl; have zb62 : wa2.cell? ⟨b6, 2, none⟩ = some (.slice none 0 0) := (blk_cell BKb6.out 2).trans rfl; have zb63 : wa2.cell? ⟨b6, 3, none⟩ = some (.float .f64 0) := (blk_cell BKb6.out 3).trans rfl; have zb64 : wa2.cell? ⟨b6, 4, none⟩ = some (.float .f64 0) := (blk_cell BKb6.out 4).trans rfl; have fb60 : wa2.frozen? ⟨b6, 0, none⟩ = false := blk_frozen BKb6.out 0; have fb61 : wa2.frozen? ⟨b6, 1, none⟩ = false := blk_frozen BKb6.out 1; have fb62 : wa2.frozen? ⟨b6, 2, none⟩ = false := blk_frozen BKb6.out 2; have fb63 : wa2.frozen? ⟨b6, 3, none⟩ = false := blk_frozen BKb6.out 3; have fb64 : wa2.frozen? ⟨b6, 4, none⟩ = false := blk_frozen BKb6.out 4))
  obtain ⟨wa3, hwS⟩ : ∃ W_, W_ = (World.setCell (World.setCell (World.setCell (World.setCell (World.setCell wa2 ⟨b6, 0, none⟩ (.bool false)) ⟨b6, 1, none⟩ (.bool s)) ⟨b6, 2, none⟩ (.slice none 0 0)) ⟨b6, 3, none⟩ (.float .f64 0)) ⟨b6, 4, none⟩ (.float .f64 0)) := ⟨_, rfl⟩; rw [← hwS]; have NB_ := Aside0.mk (show wa3.heap[b6]? = some (.cells #[.bool false, .bool s, .slice none 0 0, .float .f64 0, .float .f64 0] 58 (0, 0)) from by rw [hwS]; refine blk_put (cs := #[.bool false, .bool s, .slice none 0 0, .float .f64 0, .float .f64 0]) ?_ 4 _ rfl; refine blk_put (cs := #[.bool false, .bool s, .slice none 0 0, .float .f64 0, .float .f64 0]) ?_ 3 _ rfl; refine blk_put (cs := #[.bool false, .bool s, .slice none 0 0, .float .f64 0, .float .f64 0]) ?_ 2 _ rfl; refine blk_put (cs := #[.bool false, .bool false, .slice none 0 0, .float .f64 0, .float .f64 0]) ?_ 1 _ rfl; refine blk_put (cs := #[.bool false, .bool false, .slice none 0 0, .float .f64 0, .float .f64 0]) ?_ 0 _ rfl; exact BKb6.out); have K_ : Kept wa2 wa3 (fun k => k = b6) := (by rw [hwS]; exact Kept.setCell (S := fun k => k = b6) (Kept.setCell (S := fun k => k = b6) (Kept.setCell (S := fun k => k = b6) (Kept.setCell (S := fun k => k = b6) (Kept.setCell (S := fun k => k = b6) (Kept.refl _ _) (p := ⟨b6, 0, none⟩) (.inl rfl) _) (p := ⟨b6, 1, none⟩) (.inl rfl) _) (p := ⟨b6, 2, none⟩) (.inl rfl) _) (p := ⟨b6, 3, none⟩) (.inl rfl) _) (p := ⟨b6, 4, none⟩) (.inl rfl) _); have hb : Below wa1.heap.size wa1 wa3 := (by rw [hwS]; exact below_set (below_set (below_set (below_set (below_set (PB_.out) PG_.out) PG_.out) PG_.out) PG_.out) PG_.out); replace BKb2 := sB BKb2 K_ nb2b6; replace Z := zA Z (K_.1); clear K_ BKb6; have BKb6 := NB_; have K_ := Kept.of_below hb (fun _ => False); replace Z := zA Z (K_.1); replace HBW := bS HBW hb; clear K_ NB_ hb PB_ PG_ hwS; clear zb20 zb21 zb22 zb23 zb24 fb20 fb21 fb22 fb23 fb24 nb2b6 nb6b2 zb60 zb61 zb62 zb63 zb64 fb60 fb61 fb62 fb63 fb64; have zb20 : wa3.cell? ⟨b2, 0, none⟩ = some (.bool false) := (blk_cell BKb2.out 0).trans rfl; have zb21 : wa3.cell? ⟨b2, 1, none⟩ = some (.bool false) := (blk_cell BKb2.out 1).trans rfl; have zb22 : wa3.cell? ⟨b2, 2, none⟩ = some (.slice none 0 0) := (blk_cell BKb2.out 2).trans rfl; have zb23 : wa3.cell? ⟨b2, 3, none⟩ = some (.float .f64 0) := (blk_cell BKb2.out 3).trans rfl; have zb24 : wa3.cell? ⟨b2, 4, none⟩ = some (.float .f64 0) := (blk_cell BKb2.out 4).trans rfl; have fb20 : wa3.frozen? ⟨b2, 0, none⟩ = false := blk_frozen BKb2.out 0; have fb21 : wa3.frozen? ⟨b2, 1, none⟩ = false := blk_frozen BKb2.out 1; have fb22 : wa3.frozen? ⟨b2, 2, none⟩ = false := blk_frozen BKb2.out 2; have fb23 : wa3.frozen? ⟨b2, 3, none⟩ = false := blk_frozen BKb2.out 3; have fb24 : wa3.frozen? ⟨b2, 4, none⟩ = false := blk_frozen BKb2.out 4; have nb2b6 : b2 ≠ b6 := (by have hZ := Z.out; omega); have nb6b2 := nb2b6.symm; have zb60 : wa3.cell? ⟨b6, 0, none⟩ = some (.bool false) := (blk_cell BKb6.out 0).trans rfl; have zb61 : wa3.cell? ⟨b6, 1, none⟩ = some (.bool s) := (blk_cell BKb6.out 1).trans rfl; have zb62 : wa3.cell? ⟨b6, 2, none⟩ = some (.slice none 0 0) := (blk_cell BKb6.out 2).trans rfl; have zb63 : wa3.cell? ⟨b6, 3, none⟩ = some (.float .f64 0) := (blk_cell BKb6.out 3).trans rfl; have zb64 : wa3.cell? ⟨b6, 4, none⟩ = some (.float .f64 0) := (blk_cell BKb6.out 4).trans rfl
  refine still_letter 5 (by kernel_rfl) (by kernel_rfl) ?_
  intro wd hwd hbd
  simp only [List.take_succ_cons, List.take_zero, List.drop_succ_cons, List.drop_zero]
  replace BKb2 := Aside0.mk (blk_below BKb2.out hbd)
  replace BKb6 := Aside0.mk (blk_below BKb6.out hbd)
  replace HBW := Aside0.mk (below_step HBW.out hbd)
  replace Z := zA Z (below_size hbd)
  clear hwd hbd hx0
  clear zb20 zb21 zb22 zb23 zb24 fb20 fb21 fb22 fb23 fb24 nb2b6 nb6b2 zb60 zb61 zb62 zb63 zb64; have zb20 : wd.cell? ⟨b2, 0, none⟩ = some (.bool false) := (blk_cell BKb2.out 0).trans rfl; have zb21 : wd.cell? ⟨b2, 1, none⟩ = some (.bool false) := (blk_cell BKb2.out 1).trans rfl; have zb22 : wd.cell? ⟨b2, 2, none⟩ = some (.slice none 0 0) := (blk_cell BKb2.out 2).trans rfl; have zb23 : wd.cell? ⟨b2, 3, none⟩ = some (.float .f64 0) := (blk_cell BKb2.out 3).trans rfl; have zb24 : wd.cell? ⟨b2, 4, none⟩ = some (.float .f64 0) := (blk_cell BKb2.out 4).trans rfl; have fb20 : wd.frozen? ⟨b2, 0, none⟩ = false := blk_frozen BKb2.out 0; have fb21 : wd.frozen? ⟨b2, 1, none⟩ = false := blk_frozen BKb2.out 1; have fb22 : wd.frozen? ⟨b2, 2, none⟩ = false := blk_frozen BKb2.out 2; have fb23 : wd.frozen? ⟨b2, 3, none⟩ = false := blk_frozen BKb2.out 3; have fb24 : wd.frozen? ⟨b2, 4, none⟩ = false := blk_frozen BKb2.out 4; have nb2b6 : b2 ≠ b6 := (by have hZ := Z.out; omega); have nb6b2 := nb2b6.symm; have zb60 : wd.cell? ⟨b6, 0, none⟩ = some (.bool false) := (blk_cell BKb6.out 0).trans rfl; have zb61 : wd.cell? ⟨b6, 1, none⟩ = some (.bool s) := (blk_cell BKb6.out 1).trans rfl; have zb62 : wd.cell? ⟨b6, 2, none⟩ = some (.slice none 0 0) := (blk_cell BKb6.out 2).trans rfl; have zb63 : wd.cell? ⟨b6, 3, none⟩ = some (.float .f64 0) := (blk_cell BKb6.out 3).trans rfl; have zb64 : wd.cell? ⟨b6, 4, none⟩ = some (.float .f64 0) := (blk_cell BKb6.out 4).trans rfl; have fb60 : wd.frozen? ⟨b6, 0, none⟩ = false := blk_frozen BKb6.out 0; have fb61 : wd.frozen? ⟨b6, 1, none⟩ = false := blk_frozen BKb6.out 1; have fb62 : wd.frozen? ⟨b6, 2, none⟩ = false := blk_frozen BKb6.out 2; have fb63 : wd.frozen? ⟨b6, 3, none⟩ = false := blk_frozen BKb6.out 3; have fb64 : wd.frozen? ⟨b6, 4, none⟩ = false := blk_frozen BKb6.out 4
  repeat still_step
  refine wpStill_nil ?_
  go_wp2_with (first
    | ((with_reducible refine gate_dst (N := 74) rfl ?_); refine Kd.R_append_row (w0 := wd) (Value.int .u8) (0 : Int) (h1 := fun _ => rfl) wd.heap.size rfl (.tmp 71) (.tmp 73) 22 5 (.int .u8 0) 1 rfl Try.underlying22 info5 rfl (by decide) (.slice none 0 0) [] t A1 t.length (c - 1) (fun k => wd.heap.size ≤ k) rfl rfl (fun _ h => h) ?ho ?hr ?hb ?hs ?hl ?_; (case ho => exact Kd.R_nil _ _ _ _ _); (case hr => exact Kd.C_below hrt.out HBW.out); (case hb => exact Below.refl _ _); (case hs => exact Nat.le_refl _); (case hl => have h9_ := HTM.out; simp; omega); intro v1 wq hv hb _ _; obtain ⟨Az, cz, ev_⟩ := Kd.R_slice hv; subst ev_; rw [List.nil_append] at hv; have Rz := Aside0.mk (show Kd.R (Kd.int .u8) 5 wq w.heap.size (fun k => wd.heap.size ≤ k ∧ k < wq.heap.size) (.slice Az t.length cz) t from Kd.R_lower (Kd.R_mono (Kd.R_bound hv) (fun k hk => ⟨hk.2.1, hk.2.2.1⟩)) (below_size HBW.out)); have K_ := Kept.of_below hb (fun _ => False); replace BKb2 := mvB BKb2 K_; replace BKb6 := mvB BKb6 K_; replace Z := zA Z (K_.1); replace HBW := bS HBW hb; clear hb K_ hv; clear zb20 zb21 zb22 zb23 zb24 fb20 fb21 fb22 fb23 fb24 nb2b6 nb6b2 zb60 zb61 zb62 zb63 zb64 fb60 fb61 fb62 fb63 fb64; have zb20 : wq.cell? ⟨b2, 0, none⟩ = some (.bool false) := (blk_cell BKb2.out 0).trans rfl; have zb21 : wq.cell? ⟨b2, 1, none⟩ = some (.bool false) := (blk_cell BKb2.out 1).trans rfl; have zb22 : wq.cell? ⟨b2, 2, none⟩ = some (.slice none 0 0) := (blk_cell BKb2.out 2).trans rfl; have zb23 : wq.cell? ⟨b2, 3, none⟩ = some (.float .f64 0) := (blk_cell BKb2.out 3).trans rfl; have zb24 : wq.cell? ⟨b2, 4, none⟩ = some (.float .f64 0) := (blk_cell BKb2.out 4).trans rfl; have fb20 : wq.frozen? ⟨b2, 0, none⟩ = false := blk_frozen BKb2.out 0; have fb21 : wq.frozen? ⟨b2, 1, none⟩ = false := blk_frozen BKb2.out 1; have fb22 : wq.frozen? ⟨b2, 2, none⟩ = false := blk_frozen BKb2.out 2; have fb23 : wq.frozen? ⟨b2, 3, none⟩ = false := blk_frozen BKb2.out 3; have fb24 : wq.frozen? ⟨b2, 4, none⟩ = false := blk_frozen BKb2.out 4; have nb2b6 : b2 ≠ b6 := (by have hZ := Z.out; omega); have nb6b2 := nb2b6.symm; have zb60 : wq.cell? ⟨b6, 0, none⟩ = some (.bool false) := (blk_cell BKb6.out 0).trans rfl; have zb61 : wq.cell? ⟨b6, 1, none⟩ = some (.bool s) := (blk_cell BKb6.out 1).trans rfl; have zb62 : wq.cell? ⟨b6, 2, none⟩ = some (.slice none 0 0) := (blk_cell BKb6.out 2).trans rfl; have zb63 : wq.cell? ⟨b6, 3, none⟩ = some (.float .f64 0) := (blk_cell BKb6.out 3).trans rfl; have zb64 : wq.cell? ⟨b6, 4, none⟩ = some (.float .f64 0) := (blk_cell BKb6.out 4).trans rfl; have fb60 : wq.frozen? ⟨b6, 0, none⟩ = false := blk_frozen BKb6.out 0; have fb61 : wq.frozen? ⟨b6, 1, none⟩ = false := blk_frozen BKb6.out 1; have fb62 : wq.frozen? ⟨b6, 2, none⟩ = false := blk_frozen BKb6.out 2; have fb63 : wq.frozen? ⟨b6, 3, none⟩ = false := blk_frozen BKb6.out 3; have fb64 : wq.frozen? ⟨b6, 4, none⟩ = false := blk_frozen BKb6.out 4)
    | ((with_reducible refine gate_dst (N := 78) rfl ?_); (try (refine gate_guard (by rfl) ?_; dsimp only)); obtain ⟨wst, hwS⟩ : ∃ W_, W_ = (World.setCell wq ⟨b6, 2, none⟩ (.slice Az t.length cz)) := ⟨_, rfl⟩; rw [← hwS]; have NB_ := Aside0.mk (show wst.heap[b6]? = some (.cells #[.bool false, .bool s, .slice Az t.length cz, .float .f64 0, .float .f64 0] 58 (0, 0)) from by rw [hwS]; refine blk_put (cs := #[.bool false, .bool s, .slice none 0 0, .float .f64 0, .float .f64 0]) ?_ 2 _ rfl; exact BKb6.out); have K_ : Kept wq wst (fun k => k = b6) := (by rw [hwS]; exact Kept.setCell (S := fun k => k = b6) (Kept.refl _ _) (p := ⟨b6, 2, none⟩) (.inl rfl) _); have HB9 := Aside0.mk (show Below w.heap.size w wst from by rw [hwS]; exact below_set HBW.out (by have hZ := Z.out; omega)); replace BKb2 := sB BKb2 K_ nb2b6; replace Rz := Aside0.mk (Kd.R_kept Rz.out K_ (fun k hk h => by have hZ := Z.out; have h8 := hk.1; omega)); replace Z := zA Z (K_.1); clear HBW BKb6; have HBW := HB9; have BKb6 := NB_; clear HB9 NB_ K_ hwS; clear zb20 zb21 zb22 zb23 zb24 fb20 fb21 fb22 fb23 fb24 nb2b6 nb6b2 zb60 zb61 zb62 zb63 zb64 fb60 fb61 fb62 fb63 fb64; have zb20 : wst.cell? ⟨b2, 0, none⟩ = some (.bool false) := (blk_cell BKb2.out 0).trans rfl; have zb21 : wst.cell? ⟨b2, 1, none⟩ = some (.bool false) := (blk_cell BKb2.out 1).trans rfl; have zb22 : wst.cell? ⟨b2, 2, none⟩ = some (.slice none 0 0) := (blk_cell BKb2.out 2).trans rfl; have zb23 : wst.cell? ⟨b2, 3, none⟩ = some (.float .f64 0) := (blk_cell BKb2.out 3).trans rfl; have zb24 : wst.cell? ⟨b2, 4, none⟩ = some (.float .f64 0) := (blk_cell BKb2.out 4).trans rfl; have fb20 : wst.frozen? ⟨b2, 0, none⟩ = false := blk_frozen BKb2.out 0; have fb21 : wst.frozen? ⟨b2, 1, none⟩ = false := blk_frozen BKb2.out 1; have fb22 : wst.frozen? ⟨b2, 2, none⟩ = false := blk_frozen BKb2.out 2; have fb23 : wst.frozen? ⟨b2, 3, none⟩ = false := blk_frozen BKb2.out 3; have fb24 : wst.frozen? ⟨b2, 4, none⟩ = false := blk_frozen BKb2.out 4; have nb2b6 : b2 ≠ b6 := (by have hZ := Z.out; omega); have nb6b2 := nb2b6.symm; have zb60 : wst.cell? ⟨b6, 0, none⟩ = some (.bool false) := (blk_cell BKb6.out 0).trans rfl; have zb61 : wst.cell? ⟨b6, 1, none⟩ = some (.bool s) := (blk_cell BKb6.out 1).trans rfl; have zb62 : wst.cell? ⟨b6, 2, none⟩ = some (.slice Az t.length cz) := (blk_cell BKb6.out 2).trans rfl; have zb63 : wst.cell? ⟨b6, 3, none⟩ = some (.float .f64 0) := (blk_cell BKb6.out 3).trans rfl; have zb64 : wst.cell? ⟨b6, 4, none⟩ = some (.float .f64 0) := (blk_cell BKb6.out 4).trans rfl; refine goesL_ (some 78) rfl rfl Try.func96 (by kernel_rfl) rfl #[.agg #[.bool false, .bool s, .slice Az t.length cz, .float .f64 0, .float .f64 0]] rfl (by (try simp only [List.map_toArray, List.map_cons, List.map_nil]); first | done | rfl | (simp only [List.length_drop, List.length_take]; rfl)) ?_; refine (ref_Right.wy Az cz t 0 0 s _ (Kd.R_reads' Rz.out).2.2 (Kd.R_reads' Rz.out).2.1 hw.out).mono ?_; rintro e wa4 ⟨rfl, hb⟩; rw [bsame_zero]; refine ⟨_, rfl, ?_⟩; have K_ := Kept.of_below hb (fun _ => False); replace BKb2 := mvB BKb2 K_; replace BKb6 := mvB BKb6 K_; replace Rz := mvR Rz K_; replace Z := zA Z (K_.1); replace HBW := bS HBW hb; clear hb K_; clear zb20 zb21 zb22 zb23 zb24 fb20 fb21 fb22 fb23 fb24 nb2b6 nb6b2 zb60 zb61 zb62 zb63 zb64; have zb20 : wa4.cell? ⟨b2, 0, none⟩ = some (.bool false) := (blk_cell BKb2.out 0).trans rfl; have zb21 : wa4.cell? ⟨b2, 1, none⟩ = some (.bool false) := (blk_cell BKb2.out 1).trans rfl; have zb22 : wa4.cell? ⟨b2, 2, none⟩ = some (.slice none 0 0) := (blk_cell BKb2.out 2).trans rfl; have zb23 : wa4.cell? ⟨b2, 3, none⟩ = some (.float .f64 0) := (blk_cell BKb2.out 3).trans rfl; have zb24 : wa4.cell? ⟨b2, 4, none⟩ = some (.float .f64 0) := (blk_cell BKb2.out 4).trans rfl; have fb20 : wa4.frozen? ⟨b2, 0, none⟩ = false := blk_frozen BKb2.out 0; have fb21 : wa4.frozen? ⟨b2, 1, none⟩ = false := blk_frozen BKb2.out 1; have fb22 : wa4.frozen? ⟨b2, 2, none⟩ = false := blk_frozen BKb2.out 2; have fb23 : wa4.frozen? ⟨b2, 3, none⟩ = false := blk_frozen BKb2.out 3; have fb24 : wa4.frozen? ⟨b2, 4, none⟩ = false := blk_frozen BKb2.out 4; have nb2b6 : b2 ≠ b6 := (by have hZ := Z.out; omega); have nb6b2 := nb2b6.symm; have zb60 : wa4.cell? ⟨b6, 0, none⟩ = some (.bool false) := (blk_cell BKb6.out 0).trans rfl; have zb61 : wa4.cell? ⟨b6, 1, none⟩ = some (.bool s) := (blk_cell BKb6.out 1).trans rfl; have zb62 : wa4.cell? ⟨b6, 2, none⟩ = some (.slice Az t.length cz) := (blk_cell BKb6.out 2).trans rfl; have zb63 : wa4.cell? ⟨b6, 3, none⟩ = some (.float .f64 0) := (blk_cell BKb6.out 3).trans rfl; have zb64 : wa4.cell? ⟨b6, 4, none⟩ = some (.float .f64 0) := (blk_cell BKb6.out 4).trans rfl))
  refine bodyPost_ret (results_ct3 rfl _ _ b2 58 #[.bool false, .bool s, .slice Az t.length cz, .float .f64 0, .float .f64 0] (0, 0) _ rfl (by refine blk_put (cs := #[.bool false, .bool s, .slice Az t.length cz, .float .f64 0, .float .f64 0]) ?_ 4 _ rfl; refine blk_put (cs := #[.bool false, .bool s, .slice Az t.length cz, .float .f64 0, .float .f64 0]) ?_ 3 _ rfl; refine blk_put (cs := #[.bool false, .bool s, .slice none 0 0, .float .f64 0, .float .f64 0]) ?_ 2 _ rfl; refine blk_put (cs := #[.bool false, .bool false, .slice none 0 0, .float .f64 0, .float .f64 0]) ?_ 1 _ rfl; refine blk_put (cs := #[.bool false, .bool false, .slice none 0 0, .float .f64 0, .float .f64 0]) ?_ 0 _ rfl; exact BKb2.out) Try.underlying58 rfl (by kernel_rfl)) rfl ?_
  exact ⟨_, rfl, Kd.R_mono (Kd.R_kept Rz.out (Kept.setCell (S := fun k => k = b2) (Kept.setCell (S := fun k => k = b2) (Kept.setCell (S := fun k => k = b2) (Kept.setCell (S := fun k => k = b2) (Kept.setCell (S := fun k => k = b2) (Kept.refl _ _) (p := ⟨b2, 0, none⟩) (.inl rfl) _) (p := ⟨b2, 1, none⟩) (.inl rfl) _) (p := ⟨b2, 2, none⟩) (.inl rfl) _) (p := ⟨b2, 3, none⟩) (.inl rfl) _) (p := ⟨b2, 4, none⟩) (.inl rfl) _) (fun k hk h => by have hZ := Z.out; have h8 := hk.1; omega)) (fun _ _ => trivial), below_set (below_set (below_set (below_set (below_set (HBW.out) (by have hZ := Z.out; omega)) (by have hZ := Z.out; omega)) (by have hZ := Z.out; omega)) (by have hZ := Z.out; omega)) (by have hZ := Z.out; omega)⟩
set_option maxHeartbeats 16000000 in
set_option maxRecDepth 100000 in
theorem ref_Get.wbad (ad : Addr) (c : Nat) (l t : List Int) (v : Int) (s : Bool) (hn : 0 < l.length) (hv : (v = 0 ∧ s = false) ∨ (v = 1 ∧ s = true)) (h0 : rd l 0 = v) (ht : t = l.drop 1) (w : World) (hr : Kd.C (Kd.int .u8) w (some ad) l.length l) (hc : l.length ≤ c) (hl : l.length ≤ 140737488351232) (hw : lapidaryref02_Right.f s t = some false) :
    Calls Try.prog 65 #[.slice (some ad) l.length c] w fun e w' => e = .returned (.tuple #[.agg #[.bool false, .bool false, .slice none 0 0, .float .f64 0, .float .f64 0], .int .i64 11]) ∧ Below w.heap.size w w' := by
  have hu24 := Try.underlying24
  have hu25 := Try.underlying25
  have hu61 := Try.underlying61
  have hu58 := Try.underlying58
  obtain ⟨ad_, e_, hx⟩ := first_byte hr (by omega)
  cases e_
  rw [h0] at hx
  have hx := Aside0.mk hx
  clear h0
  obtain ⟨A1, hcut, hrt⟩ := cut1 hr (by omega) hc
  rw [← ht] at hrt
  have hrt := Aside0.mk hrt
  have hl0 := Aside0.mk (World.block_lt_of_cell? w _ hx.out)
  have HTL := Aside0.mk (show t.length = l.length - 1 from by rw [ht, List.length_drop])
  rw [← HTL.out] at hcut
  have HC1 := Aside0.mk (show t.length ≤ c - 1 from by have := HTL.out; omega)
  have hn0 : ((l.length : Int) == 0) = false := beq_eq_false_iff_ne.2 (by omega)
  have HN := Aside0.mk (show 0 < l.length from by omega)
  have HTM := Aside0.mk (show t.length ≤ 140737488351232 from by have := HTL.out; omega)
  clear ht hn
  have n_ := Aside0.mk hr
  clear hr
  have hr := n_
  clear n_
  have n_ := Aside0.mk hc
  clear hc
  have hc := n_
  clear n_
  have n_ := Aside0.mk hl
  clear hl
  have hl := n_
  clear n_
  have n_ := Aside0.mk hw
  clear hw
  have hw := n_
  clear n_
  have HBW := Aside0.mk (Below.refl w.heap.size w)
  have Z := Aside0.mk (show w.heap.size ≤ w.heap.size from Nat.le_refl _)
  have k1 : decide (2 < v) = false := decide_eq_false (by rcases hv with ⟨rfl, _⟩ | ⟨rfl, _⟩ <;> decide)
  have k2 : (v == 2) = false := by rcases hv with ⟨rfl, _⟩ | ⟨rfl, _⟩ <;> rfl
  have k3 : (v == 1) = s := by rcases hv with ⟨rfl, rfl⟩ | ⟨rfl, rfl⟩ <;> rfl
  clear hv
  have hx0 := hx.out
  go_enter Try.func65, Try.ntmps65
  go_wp2_with (first
    | ((with_reducible refine gate_dst (N := 2) rfl ?_); (try (refine gate_guard (by rfl) ?_; dsimp only)); refine box_event ?hg (N := 2) ?hd (cs := #[.bool false, .bool false, .slice none 0 0, .float .f64 0, .float .f64 0]) (t := 58) ?hr ?_; (case hd => rfl); (case hg => rfl); (case hr => first | (go_simp; done) | (go_simp; rfl)); intro b2 hg wa1 hbox hb; have K_ := Kept.of_below hb (fun _ => False); replace Z := zA Z (K_.1); replace Z := zA Z (Nat.le_of_eq hg.symm); replace Z := zA Z (Nat.le_of_eq hg); replace Z := zA Z (blk_lt hbox); replace HBW := bS HBW hb; have BKb2 := Aside0.mk hbox; clear hb hbox hg K_; have zb20 : wa1.cell? ⟨b2, 0, none⟩ = some (.bool false) := (blk_cell BKb2.out 0).trans rfl; have zb21 : wa1.cell? ⟨b2, 1, none⟩ = some (.bool false) := (blk_cell BKb2.out 1).trans rfl; have zb22 : wa1.cell? ⟨b2, 2, none⟩ = some (.slice none 0 0) := (blk_cell BKb2.out 2).trans rfl; have zb23 : wa1.cell? ⟨b2, 3, none⟩ = some (.float .f64 0) := (blk_cell BKb2.out 3).trans rfl; have zb24 : wa1.cell? ⟨b2, 4, none⟩ = some (.float .f64 0) := (blk_cell BKb2.out 4).trans rfl; have fb20 : wa1.frozen? ⟨b2, 0, none⟩ = false := blk_frozen BKb2.out 0; have fb21 : wa1.frozen? ⟨b2, 1, none⟩ = false := blk_frozen BKb2.out 1; have fb22 : wa1.frozen? ⟨b2, 2, none⟩ = false := blk_frozen BKb2.out 2; have fb23 : wa1.frozen? ⟨b2, 3, none⟩ = false := blk_frozen BKb2.out 3; have fb24 : wa1.frozen? ⟨b2, 4, none⟩ = false := blk_frozen BKb2.out 4; replace hx0 := (HBW.out.cell hl0.out).trans hx0; have hn1 := HN.out)
    | ((with_reducible refine gate_dst (N := 6) rfl ?_); (try (refine gate_guard (by rfl) ?_; dsimp only)); refine box_event ?hg (N := 6) ?hd (cs := #[.bool false, .bool false, .slice none 0 0, .float .f64 0, .float .f64 0]) (t := 58) ?hr ?_; (case hd => rfl); (case hg => rfl); (case hr => first | (go_simp; done) | (go_simp; rfl)); intro b6 hg wa2 hbox hb; have K_ := Kept.of_below hb (fun _ => False); replace BKb2 := mvB BKb2 K_; replace Z := zA Z (K_.1); replace Z := zA Z (Nat.le_of_eq hg.symm); replace Z := zA Z (Nat.le_of_eq hg); replace Z := zA Z (blk_lt hbox); have BKb6 := Aside0.mk hbox; have PB_ := Aside0.mk hb; have PG_ := Aside0.mk (Nat.le_of_eq hg.symm); clear hb hbox hg K_; clear zb20 zb21 zb22 zb23 zb24 fb20 fb21 fb22 fb23 fb24; have zb20 : wa2.cell? ⟨b2, 0, none⟩ = some (.bool false) := (blk_cell BKb2.out 0).trans rfl; have zb21 : wa2.cell? ⟨b2, 1, none⟩ = some (.bool false) := (blk_cell BKb2.out 1).trans rfl; have zb22 : wa2.cell? ⟨b2, 2, none⟩ = some (.slice none 0 0) := (blk_cell BKb2.out 2).trans rfl; have zb23 : wa2.cell? ⟨b2, 3, none⟩ = some (.float .f64 0) := (blk_cell BKb2.out 3).trans rfl; have zb24 : wa2.cell? ⟨b2, 4, none⟩ = some (.float .f64 0) := (blk_cell BKb2.out 4).trans rfl; have fb20 : wa2.frozen? ⟨b2, 0, none⟩ = false := blk_frozen BKb2.out 0; have fb21 : wa2.frozen? ⟨b2, 1, none⟩ = false := blk_frozen BKb2.out 1; have fb22 : wa2.frozen? ⟨b2, 2, none⟩ = false := blk_frozen BKb2.out 2; have fb23 : wa2.frozen? ⟨b2, 3, none⟩ = false := blk_frozen BKb2.out 3; have fb24 : wa2.frozen? ⟨b2, 4, none⟩ = false := blk_frozen BKb2.out 4; have nb2b6 : b2 ≠ b6 := (by have hZ := Z.out; omega); have nb6b2 := nb2b6.symm; have zb60 : wa2.cell? ⟨b6, 0, none⟩ = some (.bool false) := (blk_cell BKb6.out 0).trans rfl; have zb61 : wa2.cell? ⟨b6, 1, none⟩ = some (.bool false) := (blk_cell BKb6.out 1).trans rfl; have zb62 : wa2.cell? ⟨b6, 2, none⟩ = some (.slice none 0 0) := (blk_cell BKb6.out 2).trans rfl; have zb63 : wa2.cell? ⟨b6, 3, none⟩ = some (.float .f64 0) := (blk_cell BKb6.out 3).trans rfl; have zb64 : wa2.cell? ⟨b6, 4, none⟩ = some (.float .f64 0) := (blk_cell BKb6.out 4).trans rfl; have fb60 : wa2.frozen? ⟨b6, 0, none⟩ = false := blk_frozen BKb6.out 0; have fb61 : wa2.frozen? ⟨b6, 1, none⟩ = false := blk_frozen BKb6.out 1; have fb62 : wa2.frozen? ⟨b6, 2, none⟩ = false := blk_frozen BKb6.out 2; have fb63 : wa2.frozen? ⟨b6, 3, none⟩ = false := blk_frozen BKb6.out 3; have fb64 : wa2.frozen? ⟨b6, 4, none⟩ = false := blk_frozen BKb6.out 4))
  obtain ⟨wa3, hwS⟩ : ∃ W_, W_ = (World.setCell (World.setCell (World.setCell (World.setCell (World.setCell wa2 ⟨b6, 0, none⟩ (.bool false)) ⟨b6, 1, none⟩ (.bool s)) ⟨b6, 2, none⟩ (.slice none 0 0)) ⟨b6, 3, none⟩ (.float .f64 0)) ⟨b6, 4, none⟩ (.float .f64 0)) := ⟨_, rfl⟩; rw [← hwS]; have NB_ := Aside0.mk (show wa3.heap[b6]? = some (.cells #[.bool false, .bool s, .slice none 0 0, .float .f64 0, .float .f64 0] 58 (0, 0)) from by rw [hwS]; refine blk_put (cs := #[.bool false, .bool s, .slice none 0 0, .float .f64 0, .float .f64 0]) ?_ 4 _ rfl; refine blk_put (cs := #[.bool false, .bool s, .slice none 0 0, .float .f64 0, .float .f64 0]) ?_ 3 _ rfl; refine blk_put (cs := #[.bool false, .bool s, .slice none 0 0, .float .f64 0, .float .f64 0]) ?_ 2 _ rfl; refine blk_put (cs := #[.bool false, .bool false, .slice none 0 0, .float .f64 0, .float .f64 0]) ?_ 1 _ rfl; refine blk_put (cs := #[.bool false, .bool false, .slice none 0 0, .float .f64 0, .float .f64 0]) ?_ 0 _ rfl; exact BKb6.out); have K_ : Kept wa2 wa3 (fun k => k = b6) := (by rw [hwS]; exact Kept.setCell (S := fun k => k = b6) (Kept.setCell (S := fun k => k = b6) (Kept.setCell (S := fun k => k = b6) (Kept.setCell (S := fun k => k = b6) (Kept.setCell (S := fun k => k = b6) (Kept.refl _ _) (p := ⟨b6, 0, none⟩) (.inl rfl) _) (p := ⟨b6, 1, none⟩) (.inl rfl) _) (p := ⟨b6, 2, none⟩) (.inl rfl) _) (p := ⟨b6, 3, none⟩) (.inl rfl) _) (p := ⟨b6, 4, none⟩) (.inl rfl) _); have hb : Below wa1.heap.size wa1 wa3 := (by rw [hwS]; exact below_set (below_set (below_set (below_set (below_set (PB_.out) PG_.out) PG_.out) PG_.out) PG_.out) PG_.out); replace BKb2 := sB BKb2 K_ nb2b6; replace Z := zA Z (K_.1); clear K_ BKb6; have BKb6 := NB_; have K_ := Kept.of_below hb (fun _ => False); replace Z := zA Z (K_.1); replace HBW := bS HBW hb; clear K_ NB_ hb PB_ PG_ hwS; clear zb20 zb21 zb22 zb23 zb24 fb20 fb21 fb22 fb23 fb24 nb2b6 nb6b2 zb60 zb61 zb62 zb63 zb64 fb60 fb61 fb62 fb63 fb64; have zb20 : wa3.cell? ⟨b2, 0, none⟩ = some (.bool false) := (blk_cell BKb2.out 0).trans rfl; have zb21 : wa3.cell? ⟨b2, 1, none⟩ = some (.bool false) := (blk_cell BKb2.out 1).trans rfl; have zb22 : wa3.cell? ⟨b2, 2, none⟩ = some (.slice none 0 0) := (blk_cell BKb2.out 2).trans rfl; have zb23 : wa3.cell? ⟨b2, 3, none⟩ = some (.float .f64 0) := (blk_cell BKb2.out 3).trans rfl; have zb24 : wa3.cell? ⟨b2, 4, none⟩ = some (.float .f64 0) := (blk_cell BKb2.out 4).trans rfl; have fb20 : wa3.frozen? ⟨b2, 0, none⟩ = false := blk_frozen BKb2.out 0; have fb21 : wa3.frozen? ⟨b2, 1, none⟩ = false := blk_frozen BKb2.out 1; have fb22 : wa3.frozen? ⟨b2, 2, none⟩ = false := blk_frozen BKb2.out 2; have fb23 : wa3.frozen? ⟨b2, 3, none⟩ = false := blk_frozen BKb2.out 3; have fb24 : wa3.frozen? ⟨b2, 4, none⟩ = false := blk_frozen BKb2.out 4; have nb2b6 : b2 ≠ b6 := (by have hZ := Z.out; omega); have nb6b2 := nb2b6.symm; have zb60 : wa3.cell? ⟨b6, 0, none⟩ = some (.bool false) := (blk_cell BKb6.out 0).trans rfl; have zb61 : wa3.cell? ⟨b6, 1, none⟩ = some (.bool s) := (blk_cell BKb6.out 1).trans rfl; have zb62 : wa3.cell? ⟨b6, 2, none⟩ = some (.slice none 0 0) := (blk_cell BKb6.out 2).trans rfl; have zb63 : wa3.cell? ⟨b6, 3, none⟩ = some (.float .f64 0) := (blk_cell BKb6.out 3).trans rfl; have zb64 : wa3.cell? ⟨b6, 4, none⟩ = some (.float .f64 0) := (blk_cell BKb6.out 4).trans rfl
  refine still_letter 5 (by kernel_rfl) (by kernel_rfl) ?_
  intro wd hwd hbd
  simp only [List.take_succ_cons, List.take_zero, List.drop_succ_cons, List.drop_zero]
  replace BKb2 := Aside0.mk (blk_below BKb2.out hbd)
  replace BKb6 := Aside0.mk (blk_below BKb6.out hbd)
  replace HBW := Aside0.mk (below_step HBW.out hbd)
  replace Z := zA Z (below_size hbd)
  clear hwd hbd hx0
  clear zb20 zb21 zb22 zb23 zb24 fb20 fb21 fb22 fb23 fb24 nb2b6 nb6b2 zb60 zb61 zb62 zb63 zb64; have zb20 : wd.cell? ⟨b2, 0, none⟩ = some (.bool false) := (blk_cell BKb2.out 0).trans rfl; have zb21 : wd.cell? ⟨b2, 1, none⟩ = some (.bool false) := (blk_cell BKb2.out 1).trans rfl; have zb22 : wd.cell? ⟨b2, 2, none⟩ = some (.slice none 0 0) := (blk_cell BKb2.out 2).trans rfl; have zb23 : wd.cell? ⟨b2, 3, none⟩ = some (.float .f64 0) := (blk_cell BKb2.out 3).trans rfl; have zb24 : wd.cell? ⟨b2, 4, none⟩ = some (.float .f64 0) := (blk_cell BKb2.out 4).trans rfl; have fb20 : wd.frozen? ⟨b2, 0, none⟩ = false := blk_frozen BKb2.out 0; have fb21 : wd.frozen? ⟨b2, 1, none⟩ = false := blk_frozen BKb2.out 1; have fb22 : wd.frozen? ⟨b2, 2, none⟩ = false := blk_frozen BKb2.out 2; have fb23 : wd.frozen? ⟨b2, 3, none⟩ = false := blk_frozen BKb2.out 3; have fb24 : wd.frozen? ⟨b2, 4, none⟩ = false := blk_frozen BKb2.out 4; have nb2b6 : b2 ≠ b6 := (by have hZ := Z.out; omega); have nb6b2 := nb2b6.symm; have zb60 : wd.cell? ⟨b6, 0, none⟩ = some (.bool false) := (blk_cell BKb6.out 0).trans rfl; have zb61 : wd.cell? ⟨b6, 1, none⟩ = some (.bool s) := (blk_cell BKb6.out 1).trans rfl; have zb62 : wd.cell? ⟨b6, 2, none⟩ = some (.slice none 0 0) := (blk_cell BKb6.out 2).trans rfl; have zb63 : wd.cell? ⟨b6, 3, none⟩ = some (.float .f64 0) := (blk_cell BKb6.out 3).trans rfl; have zb64 : wd.cell? ⟨b6, 4, none⟩ = some (.float .f64 0) := (blk_cell BKb6.out 4).trans rfl; have fb60 : wd.frozen? ⟨b6, 0, none⟩ = false := blk_frozen BKb6.out 0; have fb61 : wd.frozen? ⟨b6, 1, none⟩ = false := blk_frozen BKb6.out 1; have fb62 : wd.frozen? ⟨b6, 2, none⟩ = false := blk_frozen BKb6.out 2; have fb63 : wd.frozen? ⟨b6, 3, none⟩ = false := blk_frozen BKb6.out 3; have fb64 : wd.frozen? ⟨b6, 4, none⟩ = false := blk_frozen BKb6.out 4
  repeat still_step
  refine wpStill_nil ?_
  go_wp2_with (first
    | ((with_reducible refine gate_dst (N := 74) rfl ?_); refine Kd.R_append_row (w0 := wd) (Value.int .u8) (0 : Int) (h1 := fun _ => rfl) wd.heap.size rfl (.tmp 71) (.tmp 73) 22 5 (.int .u8 0) 1 rfl Try.underlying22 info5 rfl (by decide) (.slice none 0 0) [] t A1 t.length (c - 1) (fun k => wd.heap.size ≤ k) rfl rfl (fun _ h => h) ?ho ?hr ?hb ?hs ?hl ?_; (case ho => exact Kd.R_nil _ _ _ _ _); (case hr => exact Kd.C_below hrt.out HBW.out); (case hb => exact Below.refl _ _); (case hs => exact Nat.le_refl _); (case hl => have h9_ := HTM.out; simp; omega); intro v1 wq hv hb _ _; obtain ⟨Az, cz, ev_⟩ := Kd.R_slice hv; subst ev_; rw [List.nil_append] at hv; have Rz := Aside0.mk (show Kd.R (Kd.int .u8) 5 wq w.heap.size (fun k => wd.heap.size ≤ k ∧ k < wq.heap.size) (.slice Az t.length cz) t from Kd.R_lower (Kd.R_mono (Kd.R_bound hv) (fun k hk => ⟨hk.2.1, hk.2.2.1⟩)) (below_size HBW.out)); have K_ := Kept.of_below hb (fun _ => False); replace BKb2 := mvB BKb2 K_; replace BKb6 := mvB BKb6 K_; replace Z := zA Z (K_.1); replace HBW := bS HBW hb; clear hb K_ hv; clear zb20 zb21 zb22 zb23 zb24 fb20 fb21 fb22 fb23 fb24 nb2b6 nb6b2 zb60 zb61 zb62 zb63 zb64 fb60 fb61 fb62 fb63 fb64; have zb20 : wq.cell? ⟨b2, 0, none⟩ = some (.bool false) := (blk_cell BKb2.out 0).trans rfl; have zb21 : wq.cell? ⟨b2, 1, none⟩ = some (.bool false) := (blk_cell BKb2.out 1).trans rfl; have zb22 : wq.cell? ⟨b2, 2, none⟩ = some (.slice none 0 0) := (blk_cell BKb2.out 2).trans rfl; have zb23 : wq.cell? ⟨b2, 3, none⟩ = some (.float .f64 0) := (blk_cell BKb2.out 3).trans rfl; have zb24 : wq.cell? ⟨b2, 4, none⟩ = some (.float .f64 0) := (blk_cell BKb2.out 4).trans rfl; have fb20 : wq.frozen? ⟨b2, 0, none⟩ = false := blk_frozen BKb2.out 0; have fb21 : wq.frozen? ⟨b2, 1, none⟩ = false := blk_frozen BKb2.out 1; have fb22 : wq.frozen? ⟨b2, 2, none⟩ = false := blk_frozen BKb2.out 2; have fb23 : wq.frozen? ⟨b2, 3, none⟩ = false := blk_frozen BKb2.out 3; have fb24 : wq.frozen? ⟨b2, 4, none⟩ = false := blk_frozen BKb2.out 4; have nb2b6 : b2 ≠ b6 := (by have hZ := Z.out; omega); have nb6b2 := nb2b6.symm; have zb60 : wq.cell? ⟨b6, 0, none⟩ = some (.bool false) := (blk_cell BKb6.out 0).trans rfl; have zb61 : wq.cell? ⟨b6, 1, none⟩ = some (.bool s) := (blk_cell BKb6.out 1).trans rfl; have zb62 : wq.cell? ⟨b6, 2, none⟩ = some (.slice none 0 0) := (blk_cell BKb6.out 2).trans rfl; have zb63 : wq.cell? ⟨b6, 3, none⟩ = some (.float .f64 0) := (blk_cell BKb6.out 3).trans rfl; have zb64 : wq.cell? ⟨b6, 4, none⟩ = some (.float .f64 0) := (blk_cell BKb6.out 4).trans rfl; have fb60 : wq.frozen? ⟨b6, 0, none⟩ = false := blk_frozen BKb6.out 0; have fb61 : wq.frozen? ⟨b6, 1, none⟩ = false := blk_frozen BKb6.out 1; have fb62 : wq.frozen? ⟨b6, 2, none⟩ = false := blk_frozen BKb6.out 2; have fb63 : wq.frozen? ⟨b6, 3, none⟩ = false := blk_frozen BKb6.out 3; have fb64 : wq.frozen? ⟨b6, 4, none⟩ = false := blk_frozen BKb6.out 4)
    | ((with_reducible refine gate_dst (N := 78) rfl ?_); (try (refine gate_guard (by rfl) ?_; dsimp only)); obtain ⟨wst, hwS⟩ : ∃ W_, W_ = (World.setCell wq ⟨b6, 2, none⟩ (.slice Az t.length cz)) := ⟨_, rfl⟩; rw [← hwS]; have NB_ := Aside0.mk (show wst.heap[b6]? = some (.cells #[.bool false, .bool s, .slice Az t.length cz, .float .f64 0, .float .f64 0] 58 (0, 0)) from by rw [hwS]; refine blk_put (cs := #[.bool false, .bool s, .slice none 0 0, .float .f64 0, .float .f64 0]) ?_ 2 _ rfl; exact BKb6.out); have K_ : Kept wq wst (fun k => k = b6) := (by rw [hwS]; exact Kept.setCell (S := fun k => k = b6) (Kept.refl _ _) (p := ⟨b6, 2, none⟩) (.inl rfl) _); have HB9 := Aside0.mk (show Below w.heap.size w wst from by rw [hwS]; exact below_set HBW.out (by have hZ := Z.out; omega)); replace BKb2 := sB BKb2 K_ nb2b6; replace Rz := Aside0.mk (Kd.R_kept Rz.out K_ (fun k hk h => by have hZ := Z.out; have h8 := hk.1; omega)); replace Z := zA Z (K_.1); clear HBW BKb6; have HBW := HB9; have BKb6 := NB_; clear HB9 NB_ K_ hwS; clear zb20 zb21 zb22 zb23 zb24 fb20 fb21 fb22 fb23 fb24 nb2b6 nb6b2 zb60 zb61 zb62 zb63 zb64 fb60 fb61 fb62 fb63 fb64; have zb20 : wst.cell? ⟨b2, 0, none⟩ = some (.bool false) := (blk_cell BKb2.out 0).trans rfl; have zb21 : wst.cell? ⟨b2, 1, none⟩ = some (.bool false) := (blk_cell BKb2.out 1).trans rfl; have zb22 : wst.cell? ⟨b2, 2, none⟩ = some (.slice none 0 0) := (blk_cell BKb2.out 2).trans rfl; have zb23 : wst.cell? ⟨b2, 3, none⟩ = some (.float .f64 0) := (blk_cell BKb2.out 3).trans rfl; have zb24 : wst.cell? ⟨b2, 4, none⟩ = some (.float .f64 0) := (blk_cell BKb2.out 4).trans rfl; have fb20 : wst.frozen? ⟨b2, 0, none⟩ = false := blk_frozen BKb2.out 0; have fb21 : wst.frozen? ⟨b2, 1, none⟩ = false := blk_frozen BKb2.out 1; have fb22 : wst.frozen? ⟨b2, 2, none⟩ = false := blk_frozen BKb2.out 2; have fb23 : wst.frozen? ⟨b2, 3, none⟩ = false := blk_frozen BKb2.out 3; have fb24 : wst.frozen? ⟨b2, 4, none⟩ = false := blk_frozen BKb2.out 4; have nb2b6 : b2 ≠ b6 := (by have hZ := Z.out; omega); have nb6b2 := nb2b6.symm; have zb60 : wst.cell? ⟨b6, 0, none⟩ = some (.bool false) := (blk_cell BKb6.out 0).trans rfl; have zb61 : wst.cell? ⟨b6, 1, none⟩ = some (.bool s) := (blk_cell BKb6.out 1).trans rfl; have zb62 : wst.cell? ⟨b6, 2, none⟩ = some (.slice Az t.length cz) := (blk_cell BKb6.out 2).trans rfl; have zb63 : wst.cell? ⟨b6, 3, none⟩ = some (.float .f64 0) := (blk_cell BKb6.out 3).trans rfl; have zb64 : wst.cell? ⟨b6, 4, none⟩ = some (.float .f64 0) := (blk_cell BKb6.out 4).trans rfl; refine goesL_ (some 78) rfl rfl Try.func96 (by kernel_rfl) rfl #[.agg #[.bool false, .bool s, .slice Az t.length cz, .float .f64 0, .float .f64 0]] rfl (by (try simp only [List.map_toArray, List.map_cons, List.map_nil]); first | done | rfl | (simp only [List.length_drop, List.length_take]; rfl)) ?_; refine (ref_Right.wn Az cz t 0 0 s _ (Kd.R_reads' Rz.out).2.2 (Kd.R_reads' Rz.out).2.1 hw.out).mono ?_; rintro e wa4 ⟨rfl, hb⟩; refine ⟨_, rfl, ?_⟩; have K_ := Kept.of_below hb (fun _ => False); replace BKb2 := mvB BKb2 K_; replace BKb6 := mvB BKb6 K_; replace Rz := mvR Rz K_; replace Z := zA Z (K_.1); replace HBW := bS HBW hb; clear hb K_; clear zb20 zb21 zb22 zb23 zb24 fb20 fb21 fb22 fb23 fb24 nb2b6 nb6b2 zb60 zb61 zb62 zb63 zb64; have zb20 : wa4.cell? ⟨b2, 0, none⟩ = some (.bool false) := (blk_cell BKb2.out 0).trans rfl; have zb21 : wa4.cell? ⟨b2, 1, none⟩ = some (.bool false) := (blk_cell BKb2.out 1).trans rfl; have zb22 : wa4.cell? ⟨b2, 2, none⟩ = some (.slice none 0 0) := (blk_cell BKb2.out 2).trans rfl; have zb23 : wa4.cell? ⟨b2, 3, none⟩ = some (.float .f64 0) := (blk_cell BKb2.out 3).trans rfl; have zb24 : wa4.cell? ⟨b2, 4, none⟩ = some (.float .f64 0) := (blk_cell BKb2.out 4).trans rfl; have fb20 : wa4.frozen? ⟨b2, 0, none⟩ = false := blk_frozen BKb2.out 0; have fb21 : wa4.frozen? ⟨b2, 1, none⟩ = false := blk_frozen BKb2.out 1; have fb22 : wa4.frozen? ⟨b2, 2, none⟩ = false := blk_frozen BKb2.out 2; have fb23 : wa4.frozen? ⟨b2, 3, none⟩ = false := blk_frozen BKb2.out 3; have fb24 : wa4.frozen? ⟨b2, 4, none⟩ = false := blk_frozen BKb2.out 4; have nb2b6 : b2 ≠ b6 := (by have hZ := Z.out; omega); have nb6b2 := nb2b6.symm; have zb60 : wa4.cell? ⟨b6, 0, none⟩ = some (.bool false) := (blk_cell BKb6.out 0).trans rfl; have zb61 : wa4.cell? ⟨b6, 1, none⟩ = some (.bool s) := (blk_cell BKb6.out 1).trans rfl; have zb62 : wa4.cell? ⟨b6, 2, none⟩ = some (.slice Az t.length cz) := (blk_cell BKb6.out 2).trans rfl; have zb63 : wa4.cell? ⟨b6, 3, none⟩ = some (.float .f64 0) := (blk_cell BKb6.out 3).trans rfl; have zb64 : wa4.cell? ⟨b6, 4, none⟩ = some (.float .f64 0) := (blk_cell BKb6.out 4).trans rfl))
  refine bodyPost_ret (results_ct3 rfl _ _ b2 58 #[.bool false, .bool false, .slice none 0 0, .float .f64 0, .float .f64 0] (0, 0) _ rfl (by refine blk_put (cs := #[.bool false, .bool false, .slice none 0 0, .float .f64 0, .float .f64 0]) ?_ 4 _ rfl; refine blk_put (cs := #[.bool false, .bool false, .slice none 0 0, .float .f64 0, .float .f64 0]) ?_ 3 _ rfl; refine blk_put (cs := #[.bool false, .bool false, .slice none 0 0, .float .f64 0, .float .f64 0]) ?_ 2 _ rfl; refine blk_put (cs := #[.bool false, .bool false, .slice none 0 0, .float .f64 0, .float .f64 0]) ?_ 1 _ rfl; refine blk_put (cs := #[.bool false, .bool false, .slice none 0 0, .float .f64 0, .float .f64 0]) ?_ 0 _ rfl; exact BKb2.out) Try.underlying58 rfl (by kernel_rfl)) rfl ?_
  exact ⟨rfl, below_set (below_set (below_set (below_set (below_set (HBW.out) (by have hZ := Z.out; omega)) (by have hZ := Z.out; omega)) (by have hZ := Z.out; omega)) (by have hZ := Z.out; omega)) (by have hZ := Z.out; omega)⟩

end Go.Proofs.Ytfjbhccapgnkiaa.P
