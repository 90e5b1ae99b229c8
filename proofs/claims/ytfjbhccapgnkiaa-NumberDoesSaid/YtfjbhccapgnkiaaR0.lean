import Derived.Test.YtfjbhccapgnkiaaA2
import Derived.Test.YtfjbhccapgnkiaaWSized
import Derived.WalkKit
import Derived.ProofKit
import Derived.OpenShut
import Derived.ShutString
import Derived.ChangeOld
import Derived.Below
import Derived.SizedLaws
import Derived.Lib.SmallJoins
namespace Go.Proofs.Ytfjbhccapgnkiaa.P
open Go.RowKit Go.Proofs.YtfjbhccapgnkiaaW.PrintWords Go.Proofs.YtfjbhccapgnkiaaW.PrintLast Go.Proofs.YtfjbhccapgnkiaaW.PrintMore
attribute [local go_sem] max2_int min2_int max_two min_two max_three min_three max_four min_four
set_option linter.unusedVariables false
set_option maxHeartbeats 16000000
set_option maxRecDepth 100000
set_option linter.unusedSimpArgs false
open Go.ChangeShapes Go.WideShapes Go.ChangeAt
open Go.Proofs.YtfjbhccapgnkiaaW
/-! ### A number that came in, opened -/
theorem Try.cells24 : Try.prog.cellsOf 24 = 2 := by kernel_rfl
theorem Try.laidOut : laidOutB Try.prog = true := by kernel_rfl
theorem Try.own : ownKnob Try.prog.godebug = none := by kernel_rfl
theorem u8_wf {n : Int} (h : (Lit.int .u8 n).wf = true) : 0 ≤ n ∧ n < 256 := by
 simp [Lit.wf, IntKind.min, IntKind.max, IntKind.bits, IntKind.signed] at h
 omega
set_option maxRecDepth 100000 in
theorem open_num {H : Type} {enc : TypeId × Value → H} {W : World} {base : Nat} {v : Value} {d : DataW H} {p : List MemPlace} {ts : List TypeId} {ds : List (DataW H)} {j : Nat}
  (hsz : (DataW.weightsEach Try.prog ts ds).all (· ≤ reachBytes) = true) (ht : ts[j]? = some 24) (hd : ds[j]? = some d) (hv : Value.okWide Try.prog W .any base 24 v) (h : DataW.Trod enc Try.prog W 0 (fun _ => true) true 24 v d p) :
  ∃ (n : Bool) (A : Option Addr) (c : Nat) (l : List Int), v = .agg #[.bool n, .slice A l.length c] ∧ Kd.C (Kd.int .u8) W A l.length l ∧ l.length ≤ c ∧ (A = none → c = 0) ∧ l.length ≤ 140737488351232 ∧ ∀ x ∈ l, 0 ≤ x ∧ x < 256 := by
 obtain ⟨c0, c1, y0, y1, m, rfl, rfl, rfl, hy0, a1⟩ := Go.Joins.open_agg2 Try.underlying24 (by kernel_rfl) Try.cells24 hv h
 obtain ⟨n, e0, _⟩ := DataW.trod_bool Try.underlying4 hy0
 simp only [List.cons.injEq, and_true] at e0
 subst e0
 have a0 : (DataW.weightsEach Try.prog [4, 22] [y0.1, y1.1]).all (· ≤ reachBytes) = true := by
  rw [List.all_eq_true]
  intro x hx
  exact List.all_eq_true.1 hsz x (DataW.weights_mem_each ht hd x (by simpa [DataW.weights, Try.underlying24] using hx))
 obtain ⟨A, len, c, e1⟩ := Go.Joins.slice_form Try.underlying22 a1
 simp only [List.cons.injEq, and_true] at e1
 subst e1
 have hlen : len * 1 ≤ 140737488351232 := by
  refine PrintWords.sized_ints (P := Try.prog) (enc := enc) (W := W) (base := 0) (spare := fun _ => true) (held := true) (a := A) (cap := c) (d := y1.1) (ps := y1.2) a0 (j := 1) (t := 22) rfl rfl Try.underlying22 Try.underlying5 (by kernel_rfl) (by kernel_rfl) ⟨m, ?_⟩
  simpa [Value.cells] using a1
 rcases open_ints Try.underlying22 Try.underlying5 (by kernel_rfl) a1 with ⟨hcs, _⟩ | ⟨x, l, c', zs, hcs, _, hl, hm, hz, _, hcell, hwz⟩
 ·simp only [List.cons.injEq, and_true, Value.slice.injEq] at hcs
  obtain ⟨rfl, rfl, rfl⟩ := hcs
  exact ⟨n, none, 0, [], rfl, Kd.C_nil _ _, Nat.le_refl _, fun _ => rfl, by simp, fun x hx => by cases hx⟩
 ·simp only [List.cons.injEq, and_true, Value.slice.injEq] at hcs
  obtain ⟨rfl, rfl, rfl⟩ := hcs
  obtain ⟨l0, rfl, hr, hm2, hw, hc⟩ := ReadsInt.ofRowC (w := W) (k := .u8) (a := some x) (len := len) (cap := c) (zs := zs) (.inr ⟨x, rfl, hl, hm, by simpa using hz, hcell, hwz⟩)
  exact ⟨n, some x, c, l0, rfl, Kd.C_of_reads (d := (0 : Int)) (h1 := fun _ => rfl) hr, hc, fun e => (by cases e), by omega, fun y hy => u8_wf (hw y hy)⟩
end Go.Proofs.Ytfjbhccapgnkiaa.P
