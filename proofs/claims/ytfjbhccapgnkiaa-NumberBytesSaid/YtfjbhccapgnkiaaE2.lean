import Derived.Test.YtfjbhccapgnkiaaE1
import Derived.Deep.RegionHeld3
namespace Go.Proofs.Ytfjbhccapgnkiaa.P
open Go.RowKit Go.Proofs.YtfjbhccapgnkiaaW.PrintWords Go.Proofs.YtfjbhccapgnkiaaW.PrintLast Go.Proofs.YtfjbhccapgnkiaaW.PrintMore
attribute [local go_sem] max2_int min2_int max_two min_two max_three min_three max_four min_four
set_option linter.unusedVariables false
set_option linter.unusedSimpArgs false

/-! ### lapidarylaw02.given -/
theorem Lnt.below {w w' : World} {g : Nat} {l : List Int} (h : Lnt w g l) (hb : Below w.heap.size w w') : Lnt w' g l := blk_below h hb
theorem Lnt.far {w : World} {g g2 : Nat} {l : List Int} (h : Lnt w g l) (hg : g ≠ g2) (o : Nat) (u : Value) : Lnt (w.setCell ⟨g2, o, none⟩ u) g l := (Below.heap_setCell w ⟨g2, o, none⟩ u g hg).trans h
set_option maxHeartbeats 4000000 in
set_option maxRecDepth 100000 in
theorem lapidarylaw02_given.calls (a0 : Bool) (A : Option Addr) (c : Nat) (l : List Int) (w : World) (hr : Kd.C (Kd.int .u8) w A l.length l) (hc : l.length ≤ c) (hA : A = none → c = 0) (hl : l.length ≤ 140737488351232) :
    Calls Try.prog 19 #[.agg #[.bool a0, .slice A l.length c]] w fun e w' => ∃ g, e = .returned (.agg #[.bool a0, .slice (some ⟨g, 0, none⟩) l.length (l.length + 8)]) ∧ w.heap.size ≤ g ∧ Lnt w' g l ∧ Below w.heap.size w w' := by
  have hu24 := Try.underlying24
  have hu25 := Try.underlying25
  have HR := Aside0.mk hr
  have HC := Aside0.mk hc
  have HA := Aside0.mk hA
  have HL := Aside0.mk hl
  clear hr hc hA hl
  go_enter Try.func19, Try.ntmps19
  go_wp2_with (first
    | ((with_reducible refine gate_dst (N := 1) rfl ?_); refine box_event ?hg (N := 1) ?hd (cs := #[.bool a0, .slice A l.length c]) (t := 24) ?hr ?_; (case hd => rfl); (case hg => rfl); (case hr => first | (go_simp; done) | (go_simp; rfl)); intro g1 hg w1 hbox hb; have BK1 := Aside0.mk hbox; have HB1 := Aside0.mk hb; have GE1 := Aside0.mk (Nat.le_of_eq hg.symm); clear hb hbox hg)
    | ((with_reducible refine gate_dst (N := 2) rfl ?_); refine box_event ?hg (N := 2) ?hd (cs := #[.bool false, .slice none 0 0]) (t := 25) ?hr ?_; (case hd => rfl); (case hg => rfl); (case hr => first | (go_simp; done) | (go_simp; rfl)); intro g2 hg w2 hbox hb; have BK2 := Aside0.mk hbox; have BK1' := Aside0.mk (blk_below BK1.out hb); have HB2 := Aside0.mk (below_step HB1.out hb); have GE2 := Aside0.mk (Nat.le_trans (below_size HB1.out) (Nat.le_of_eq hg.symm)); have NE := Aside0.mk (show g1 ≠ g2 from by rw [hg]; exact Nat.ne_of_lt (Array.getElem?_eq_some_iff.1 BK1.out).1); clear hb hbox hg))
  have HB2d := Aside0.mk (Below.drew HB2.out)
  have BK1d := Aside0.mk (show w2.drew.heap[g1]? = _ from BK1'.out)
  have BK2d := Aside0.mk (show w2.drew.heap[g2]? = _ from BK2.out)
  go_region_held3 (fun w' => w'.cell? ⟨g1, 0, none⟩ = some (.bool a0) ∧ w'.cell? ⟨g1, 1, none⟩ = some (.slice A l.length c))
    (first | exact ⟨(blk_cell BK1d.out 0).trans rfl, (blk_cell BK1d.out 1).trans rfl⟩ | exact ⟨(blk_cell BK1e.out 0).trans rfl, (blk_cell BK1e.out 1).trans rfl⟩ | (simp [*]; done) | go_keep)
    (first | (go_at_call 61; refine (lapidaryref01_Lent.calls _ _ l _ (Kd.C_below HR.out HB2d.out) HC.out HA.out HL.out).mono ?_; rintro e w3 ⟨g, rfl, hg, hLn, hb⟩; have BK1e := Aside0.mk (blk_below BK1d.out hb); have BK2e := Aside0.mk (blk_below BK2d.out hb); have HB3 := Aside0.mk (below_step HB2d.out hb); have GG := Aside0.mk (Nat.le_trans (below_size HB2d.out) hg); have NG := Aside0.mk (show g ≠ g2 from fun e => by have h1 := (Array.getElem?_eq_some_iff.1 BK2d.out).1; omega); have LN := Aside0.mk hLn; clear hLn hb hg; have hne := NE.out; have hne' := NE.out.symm; have hy0 : w3.cell? ⟨g1, 0, none⟩ = some (.bool a0) := (blk_cell BK1e.out 0).trans rfl; have hy1 : w3.cell? ⟨g1, 1, none⟩ = some (.slice A l.length c) := (blk_cell BK1e.out 1).trans rfl; have hz0 : w3.cell? ⟨g2, 0, none⟩ = some (.bool false) := (blk_cell BK2e.out 0).trans rfl; have hz1 : w3.cell? ⟨g2, 1, none⟩ = some (.slice none 0 0) := (blk_cell BK2e.out 1).trans rfl; have hf0 := blk_frozen BK2e.out 0; have hf1 := blk_frozen BK2e.out 1))
  go_wp2
  refine bodyPost_ret (results_cell_row rfl _ _ g2 25 #[.bool a0, .slice (some ⟨g, 0, none⟩) l.length (l.length + 8)] (0, 0) _ rfl (by refine blk_put (cs := #[.bool a0, .slice none 0 0]) ?_ 1 _ rfl; refine blk_put (cs := #[.bool false, .slice none 0 0]) ?_ 0 _ rfl; exact BK2e.out) Try.underlying25 rfl (by kernel_rfl)) rfl ?_
  exact ⟨g, rfl, GG.out, ((LN.out).far NG.out _ _).far NG.out _ _, below_set (below_set HB3.out GE2.out) GE2.out⟩

end Go.Proofs.Ytfjbhccapgnkiaa.P
