import Derived.Test.YtpodpmjlkbbkoaaRows
import Derived.Test.YtpodpmjlkbbkoaaWCTA
import Derived.WalkKit
import Derived.ProofKit
import Derived.OpenShut
import Derived.ShutString
import Derived.ChangeOld
import Derived.Below
import Derived.SizedLaws
import Derived.LaidMore
import Derived.Lay
import Derived.SliceStrings
import Derived.Stop.Joined
import Derived.Deep.DeepHandedRow
import Derived.Test.YtpodpmjlkbbkoaaWCLZ
set_option linter.all false
namespace Go.Proofs.Ytpodpmjlkbbkoaa.P
open Go.ChangeShapes Go.WideShapes Go.ChangeAt Go.RowKit Go.Proofs.YtpodpmjlkbbkoaaW.PrintWords
open Go.ChangeMaps (open_string shut_string)
theorem own_ : ownKnob Try.prog.godebug = none := by kernel_rfl
theorem laidOut_ : laidOutB Try.prog = true := by kernel_rfl
theorem cells9_ : Try.prog.cellsOf 9 = 1 := by kernel_rfl
theorem bulk_strs {H : Type} : ∀ ss : List ByteArray, ss.length ≤ Rows.uptoBulkAll (strs ss : List (DataW H))
 | [] => Nat.zero_le _
 | s :: l => by
  have := bulk_strs (H := H) l
  simp only [strs, List.map_cons, Rows.uptoBulkAll, Rows.uptoBulk, List.length_cons] at this ⊢
  omega
set_option maxRecDepth 100000 in
theorem open_slots {H : Type} {enc : TypeId × Value → H} {W : World} {base b0 : Nat} {sp : Nat → Bool} {v : Value} {d : DataW H} {p : List MemPlace} (hv : Value.okWide Try.prog W .any base 22 v) (h : DataW.Trod enc Try.prog W b0 sp true 22 v d p) :
  ∃ (A : Option Addr) (c : Nat) (l : List ByteArray), v = .slice A l.length c ∧ l.length ≤ c ∧ Kd.string.C W A l.length l ∧ l.length ≤ Rows.uptoBulk d := by
 obtain ⟨a0, len, cap, rfl⟩ := okWide_slice Try.underlying22 hv
 obtain ⟨fuel, hf⟩ := h
 rcases open_strings Try.underlying22 Try.underlying9 cells9_ hf with ⟨hcs, hx⟩ | ⟨a, len', cap', ss, hcs, _, hl, hm, hlen, hx, hcell, _⟩
 ·simp [Value.cells] at hcs
  obtain ⟨rfl, rfl, rfl⟩ := hcs
  exact ⟨none, 0, [], rfl, Nat.le_refl _, ⟨rfl, by simp, fun h => by simp at h⟩, Nat.zero_le _⟩
 ·simp [Value.cells] at hcs
  obtain ⟨rfl, rfl, rfl⟩ := hcs
  simp only [Prod.mk.injEq] at hx
  obtain ⟨rfl, rfl⟩ := hx
  have hls : len ≤ ss.length := by rw [hlen]; split <;> omega
  have hlt : (ss.take len).length = len := by rw [List.length_take]; omega
  refine ⟨some a, cap, ss.take len, by rw [hlt], by rw [hlt]; exact hl, ?_, ?_⟩
  ·refine Kd.C_of_reads (enc := Value.string) (d := ByteArray.empty) (h1 := fun _ => rfl) ⟨rfl, by rw [hlt]; simp only [maxLen] at hm; omega, fun h0 => ⟨a, rfl, fun j hj => ?_⟩⟩
   rw [hlt] at hj
   rw [hcell j (by omega)]
   congr 2
   simp only [List.getD_eq_getElem?_getD]
   rw [List.getElem?_take, if_pos hj]
  ·have := bulk_strs (H := H) (ss.take len)
   simp only [Rows.uptoBulk]
   omega
end Go.Proofs.Ytpodpmjlkbbkoaa.P
namespace Go.Proofs.Ytpodpmjlkbbkoaa.scopeWithinW
open Go.ChangeShapes Go.WideShapes Go.ChangeAt Go.RowKit
open Go.ChangeMaps (open_string shut_string)
theorem laid_met (os : Os) : laidMetH Try.prog Rows.scopeWithinRow.laid ((World.laidAll Try.prog os Rows.scopeWithinRow.laid).forCall (fun _ _ => 0) ⟨#[], #[.string ByteArray.empty, .slice none 0 0], []⟩).memory := by
 rw [MakeChecks.laidMetH_plain _ _ _ (by kernel_rfl)]
 exact laidMet_laidAll _ (by kernel_rfl) (by kernel_rfl)
theorem reads (os : Os) {H : Type} (enc : TypeId × Value → H) : ∃ places, DataW.whole enc Try.prog ((World.laidAll Try.prog os Rows.scopeWithinRow.laid).forCall (fun _ _ => 0) ⟨#[], #[.string ByteArray.empty, .slice none 0 0], []⟩).memory Try.f4.params.toList Rows.scopeWithinSpec.vars false #[Value.string ByteArray.empty, Value.slice none 0 0].toList 8 = some ([.lit (.string []), .nil], [], places) :=
 ⟨[], by kernel_rfl⟩
set_option maxRecDepth 100000 in
theorem okB (os : Os) : Input.okWideB Try.prog ((World.laidAll Try.prog os Rows.scopeWithinRow.laid).forCall (fun _ _ => 0) ⟨#[], #[.string ByteArray.empty, .slice none 0 0], []⟩) 4 ⟨#[], #[.string ByteArray.empty, .slice none 0 0], []⟩ = true := by kernel_rfl
set_option maxRecDepth 100000 in
theorem lifted (os : Os) (started : os.Started) (H : Type) (enc : TypeId × Value → H) (F : Stop.Interp) :
  ReturnsInHanded {} Try.checked os 4 .any ((OpenSpec.ofChange Rows.scopeWithinSpec).preRow enc Try.prog Try.f4 Rows.scopeWithinRow.domain false Rows.scopeWithinRow.laid) (((OpenSpec.ofChange Rows.scopeWithinSpec).at F).post enc Try.prog Try.f4 false true false false) := by
 obtain ⟨places, hx⟩ := reads os enc
 refine returnsInHanded_of_row (C := Try.checked) (s := (OpenSpec.ofChange Rows.scopeWithinSpec)) P.own_ started (by kernel_rfl) Try.func4
  ⟨World.laidAll Try.prog os Rows.scopeWithinRow.laid, fun _ _ => 0, ⟨#[], #[.string ByteArray.empty, .slice none 0 0], []⟩, World.laidAll_os _ _ _, World.shaped_of_ZipB (by kernel_rfl) (by kernel_rfl),
   (Input.okWide_of_okWideB (base := 0) (okB os)).1, (Input.okWide_of_okWideB (okB os)).2,
   OpenSpec.preRow_of_cond 8 hx (by kernel_rfl) (fun k hk => by cases hk) (by kernel_rfl) (laid_met os), by
    simp only [Assume.holds]
    exact ⟨by simp, by simp, fun _ => Modest.zero, by simp, by simp⟩⟩ ?_
 intro W base args ds gs before hval0 hW hcnd hcond hsz0 hL _ _
 have hsz : (DataW.weightsEach Try.prog (Try.f4.params.toList ++ Rows.scopeWithinSpec.plain.varTypes Try.prog) (ds ++ gs)).all (· ≤ reachBytes) = true := hsz0
 have hval : ∀ (j : Nat) t v, Try.f4.params[j]? = some t → args[j]? = some v → Value.okWide Try.prog W .any base t v := hval0
 have hW' := hW
 obtain ⟨p, q, hA0, hV, rfl, hfz, hnd⟩ := hW
 have hA : DataW.TrodAll enc Try.prog W 0 (fun _ => true) true Try.f4.params.toList args.toList ds p := hA0
 rw [Try.params4] at hA hval hsz
 obtain ⟨v0, vs0, d0, ds0, p0, q0, hargs, rfl, rfl, h0, r0⟩ := trodAll_cons hA
 obtain ⟨v1, vs1, d1, ds1, p1, q1, rfl, rfl, rfl, h1, r1⟩ := trodAll_cons r0
 obtain ⟨rfl, rfl, rfl⟩ := trodAll_nil r1
 obtain rfl : args = #[v0, v1] := by cases args; simp_all
 obtain ⟨rfl, rfl⟩ := trodVars_none hV
 have lt0 : ∀ x ∈ p0, x.block < W.heap.size := by obtain ⟨m, hm⟩ := h0; exact DataW.trod_lt m _ _ _ hm
 have k0 := h0
 have lt1 : ∀ x ∈ p1, x.block < W.heap.size := by obtain ⟨m, hm⟩ := h1; exact DataW.trod_lt m _ _ _ hm
 have k1 := h1
 obtain ⟨a0, e0, _, _, y0⟩ := open_string Try.underlying9 (hval 0 9 v0 rfl rfl) h0
 subst e0
 obtain ⟨A1, c1, l1, e1, hc1, hC1, hl1⟩ := P.open_slots (hval 1 22 v1 rfl rfl) h1
 subst e1
 clear hA0 hval0 hsz0 hsz
 refine (P.law_within.all a0 l1 A1 c1 W (P.SL.of_C hc1 hC1)).mono fun e W' ⟨he, bel⟩ => ?_
 subst he
 exact ⟨_, rfl, _, _, _, [], _, [], hW', trodAll_mk1 (shut_bool Try.underlying4 _), (trodAll_cons_mk (Below.trod P.laidOut_ (by kernel_rfl) (of_decide_eq_true (by kernel_rfl)) k0 bel lt0) (trodAll_cons_mk (Below.trod P.laidOut_ (by kernel_rfl) (of_decide_eq_true (by kernel_rfl)) k1 bel lt1) trodAll_mk0)), rfl, bel.frame _, fun h => by cases h⟩
end Go.Proofs.Ytpodpmjlkbbkoaa.scopeWithinW
namespace Go.Proofs.Ytpodpmjlkbbkoaa
theorem scopeWithin_holds : Rows.ScopeWithinSaid :=
 OpenClaim.holds_of_cond 4 Try.f4 rfl rfl rfl rfl rfl rfl rfl ⟨rfl, rfl, rfl, rfl, rfl⟩ rfl rfl rfl rfl rfl (by kernel_rfl) Try.func4 (by kernel_rfl)
  (of_decide_eq_true (by kernel_rfl)) (by unfold Func.isWrapper; first | (rw [if_pos (by decide +kernel)]; kernel_rfl) | (rw [if_neg (by decide +kernel)]; exact ⟨rfl, rfl⟩))
  (fun os started H enc _ F => by rw [OpenClaim.pre_eq_preRow]; exact scopeWithinW.lifted os started H enc F)
end Go.Proofs.Ytpodpmjlkbbkoaa
