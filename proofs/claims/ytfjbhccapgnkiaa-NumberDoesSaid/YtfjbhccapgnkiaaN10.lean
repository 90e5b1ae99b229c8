import Derived.Test.YtfjbhccapgnkiaaN0
import Derived.Test.YtfjbhccapgnkiaaV0
namespace Go.Proofs.Ytfjbhccapgnkiaa.P
open Go.RowKit Go.Proofs.YtfjbhccapgnkiaaW.PrintWords Go.Proofs.YtfjbhccapgnkiaaW.PrintLast Go.Proofs.YtfjbhccapgnkiaaW.PrintMore
attribute [local go_sem] max2_int min2_int max_two min_two max_three min_three max_four min_four
set_option linter.unusedVariables false
set_option maxHeartbeats 16000000
set_option maxRecDepth 100000
set_option linter.unusedSimpArgs false
attribute [local go_sem] stC stF
/-! ### lapidarylaw06.given -/
theorem number_given.calls (p s : Bool) (A : Option Addr) (c : Nat) (l : List Int) (x y : Nat) (w : World) (hr : Kd.C (Kd.int .u8) w A l.length l) (hc : l.length ≤ c) (hA : A = none → c = 0) (hl : l.length ≤ 140737488351232) :
  Calls Try.prog 51 #[.agg #[.bool p, .bool s, .slice A l.length c, .float .f64 x, .float .f64 y]] w fun e w' => ∃ g, e = .returned (.agg #[.bool p, .bool s, .slice (some ⟨g, 0, none⟩) l.length (l.length + 8), .complex .f64 x y]) ∧ w.heap.size ≤ g ∧ Lnt w' g l ∧ Below w.heap.size w w' := by
 have hu24 := Try.underlying24
 have hu25 := Try.underlying25
 have hu61 := Try.underlying61
 have hu58 := Try.underlying58
 have HR := Aside0.mk hr
 have HC := Aside0.mk hc
 have HA := Aside0.mk hA
 have HL := Aside0.mk hl
 clear hr hc hA hl
 go_enter Try.func51, Try.ntmps51
 go_wp2_with (first
  | ((with_reducible refine gd 1 rfl ?_); refine bE (N := 1) (cs := #[.bool p, .bool s, .slice A l.length c, .float .f64 x, .float .f64 y]) (t := 58) ?_; intro g1 hg w1 hbox hb; have a6 := Aside0.mk hbox; have a7 := Aside0.mk hb; have GE1 := Aside0.mk (Nat.le_of_eq hg.symm); clear hb hbox hg)
  | ((with_reducible refine gd 2 rfl ?_); refine bE (N := 2) (cs := #[.bool false, .bool false, .slice none 0 0, .complex .f64 0 0]) (t := 61) ?_; intro g2 hg w2 hbox hb; have BK2 := Aside0.mk hbox; have BK1' := Aside0.mk (blk_below a6.out hb); have HB2 := Aside0.mk (below_step a7.out hb); have a5 := Aside0.mk (Nat.le_trans (below_size a7.out) (Nat.le_of_eq hg.symm)); have NE := Aside0.mk (show g1 ≠ g2 from by rw [hg]; exact Nat.ne_of_lt (Array.getElem?_eq_some_iff.1 a6.out).1); clear hb hbox hg))
 have a2 := Aside0.mk (Below.drew HB2.out)
 have a0 := Aside0.mk (show w2.drew.heap[g1]? = _ from BK1'.out)
 have a4 := Aside0.mk (show w2.drew.heap[g2]? = _ from BK2.out)
 go_region_held3 (fun w' => w'.cell? ⟨g1, 0, none⟩ = some (.bool p) ∧ w'.cell? ⟨g1, 1, none⟩ = some (.bool s) ∧ w'.cell? ⟨g1, 2, none⟩ = some (.slice A l.length c) ∧ w'.cell? ⟨g1, 3, none⟩ = some (.float .f64 x) ∧ w'.cell? ⟨g1, 4, none⟩ = some (.float .f64 y))
  (first | exact ⟨bc a0 0, bc a0 1, bc a0 2, bc a0 3, bc a0 4⟩ | exact ⟨bc a1 0, bc a1 1, bc a1 2, bc a1 3, bc a1 4⟩ | (simp [*]; done) | go_keep)
  (first | (go_at_call 61; refine (lapidaryref01_Lent.calls _ _ l _ (Kd.C_below HR.out a2.out) HC.out HA.out HL.out).mono ?_; rintro e w3 ⟨g, rfl, hg, hLn, hb⟩; have a1 := Aside0.mk (blk_below a0.out hb); have a3 := Aside0.mk (blk_below a4.out hb); have HB3 := Aside0.mk (below_step a2.out hb); have GG := Aside0.mk (Nat.le_trans (below_size a2.out) hg); have NG := Aside0.mk (show g ≠ g2 from fun e => by have h1 := (Array.getElem?_eq_some_iff.1 a4.out).1; omega); have LN := Aside0.mk hLn; clear hLn hb hg; have hne := NE.out; have hne' := NE.out.symm; have hy := z5 a1; have hz := zf4 a3))
 all_goals (
  go_wp2
  refine bodyPost_ret (results_cell_row rfl _ _ g2 61 #[.bool p, .bool s, .slice (some ⟨g, 0, none⟩) l.length (l.length + 8), .complex .f64 x y] (0, 0) _ rfl (bp a3) Try.underlying61 rfl (by kernel_rfl)) rfl ?_
  exact ⟨g, rfl, GG.out, ((((LN.out).far NG.out _ _).far NG.out _ _).far NG.out _ _).far NG.out _ _, below_set (below_set (below_set (below_set HB3.out a5.out) a5.out) a5.out) a5.out⟩)
end Go.Proofs.Ytfjbhccapgnkiaa.P
