import Derived.Test.YtpodpmjlkbbkoaaQCXP
import Derived.Test.YtpodpmjlkbbkoaaQCPQ
import Derived.Test.YtpodpmjlkbbkoaaQCLE
import Derived.Test.YtpodpmjlkbbkoaaRows
import Derived.Test.YtpodpmjlkbbkoaaQCTA
import Derived.WalkKit
import Derived.ProofKit
import Derived.OpenShut
import Derived.ShutString
import Derived.ChangeOld
import Derived.Below
import Derived.SizedLaws
import Derived.LaidMore
import Derived.Lay
import Derived.SliceStrings
import Derived.Stop.Joined
import Derived.Deep.DeepHandedRow
set_option linter.all false
namespace Go.Proofs.Ytpodpmjlkbbkoaa.P
open Go.RowKit Go.Proofs.YtpodpmjlkbbkoaaW.PrintWords Go.Proofs.YtpodpmjlkbbkoaaW.PrintLast Go.Proofs.YtpodpmjlkbbkoaaW.PrintMore
namespace SP
mutual
theorem part_nice {P : ByteArray → Int → Prop} (slots : List ByteArray) : ∀ (x : Nd) (fs : List Fr) (rcv : Bool) (acc us : List Use), part slots fs rcv acc x = .ok us → Nice P x → (∀ u, u ∈ acc → P u.name u.place ∧ (u.write = true → u.kind = 3 ∨ u.kind = 4)) → ∀ u, u ∈ us → P u.name u.place ∧ (u.write = true → u.kind = 3 ∨ u.kind = 4)
 | .mk kind text place n names kids, fs, rcv, acc, us, h, hx, ha => by
  have hw : (find slots text fs).1.write = false := by
   unfold find
   split
   ·rfl
   ·split
    ·rfl
    ·split <;> rfl
  have hname : (find slots text fs).1.name = text := by
   unfold find
   split
   ·rfl
   ·split
    ·rfl
    ·split <;> rfl
  simp only [part] at h
  split at h
  ·rename_i h5
   split at h
   ·cases h
   ·have h := Except.ok.inj h
    subst h
    intro u hu
    rcases List.mem_append.1 hu with hu | hu
    ·exact ha u hu
    ·obtain rfl := List.mem_singleton.1 hu
     refine ⟨?_, fun h => ?_⟩
     ·show P (find slots text fs).1.name place
      rw [hname]
      exact hx.1 (Or.inl h5)
     ·exact absurd (show (find slots text fs).1.write = true from h) (by rw [hw]; decide)
  ·split at h
   ·rename_i h6
    split at h
    ·cases h
    ·rename_i hb
     refine parts_nice slots kids _ _ _ _ h hx.2.2 (fun u hu => ?_)
     rcases List.mem_append.1 hu with hu | hu
     ·exact ha u hu
     ·obtain rfl := List.mem_singleton.1 hu
      refine ⟨?_, fun _ => ?_⟩
      ·show P (find slots text fs).1.name place
       rw [hname]
       exact hx.1 (Or.inr h6)
      ·show (find slots text fs).1.kind = 3 ∨ (find slots text fs).1.kind = 4
       by_cases h3 : (find slots text fs).1.kind = 3
       ·exact Or.inl h3
       ·by_cases h4 : (find slots text fs).1.kind = 4
        ·exact Or.inr h4
        ·exact absurd (Or.inr ⟨h3, h4⟩) hb
   ·split at h
    ·split at h
     ·exact parts_nice slots kids _ _ _ _ h hx.2.2 ha
     ·cases h
    ·exact parts_nice slots kids _ _ _ _ h hx.2.2 ha
theorem parts_nice {P : ByteArray → Int → Prop} (slots : List ByteArray) : ∀ (l : List Nd) (fs : List Fr) (first : Bool) (acc us : List Use), parts slots fs first acc l = .ok us → NiceL P l → (∀ u, u ∈ acc → P u.name u.place ∧ (u.write = true → u.kind = 3 ∨ u.kind = 4)) → ∀ u, u ∈ us → P u.name u.place ∧ (u.write = true → u.kind = 3 ∨ u.kind = 4)
 | [], fs, first, acc, us, h, hx, ha => by
  simp only [parts] at h
  rw [← Except.ok.inj h]
  exact ha
 | k :: ks, fs, first, acc, us, h, hx, ha => by
  simp only [parts] at h
  cases hp : part slots fs first acc k with
  | error e => rw [hp] at h; cases h
  | ok a =>
   rw [hp] at h
   exact parts_nice slots ks _ _ _ _ h hx.2 (part_nice slots k _ _ _ _ hp hx.1 ha)
end
theorem resolve_nice {P : ByteArray → Int → Prop} {slots : List ByteArray} {x : Nd} {us : List Use} (h : resolve slots x = .ok us) (hx : Nice P x) : ∀ u, u ∈ us → P u.name u.place ∧ (u.write = true → u.kind = 3 ∨ u.kind = 4) := by
 unfold resolve at h
 split at h
 ·exact parts_nice slots _ _ _ _ _ h hx.kids (fun u hu => by cases hu)
 ·cases h
end SP
theorem law_places.of {s : ByteArray} {m : Bool} {slots : List ByteArray} {x : SP.Nd} {y : Int} (h6 : ∀ w As cs, SL (fun k => k < w.heap.size) w As cs slots → Calls Try.prog 6 #[.string s, .bool m, .slice As slots.length cs] w (RsA (resolvedS x y slots) w)) (hok : y = 0 → SP.Nice (InS s) x ∧ SP.cnt x ≤ 4098) (hsz : y = 0 → s.size ≤ 4096) {As : Option Addr} {cs : Nat} (w : World) (hs : SL (fun k => k < w.heap.size) w As cs slots) :
  Calls Try.prog 5 #[.string s, .bool m, .slice As slots.length cs] w fun e w' => e = .returned (.bool true) ∧ Below w.heap.size w w' := by
 have hk7 : KnownC := fun w => (lapidarylaw09_known.calls 10 true w (known_ev (Nat.le_refl _))).mono fun e w' h => h
 by_cases hy : y = 0
 ·obtain ⟨hn, hc⟩ := hok hy
  rw [show resolvedS x y slots = ofW (SP.resolve slots x) from if_pos hy] at h6
  cases h : SP.resolve slots x with
  | error p =>
   rw [h] at h6
   exact law_places.skip w h6 hk7 hs (.inr ⟨rfl, rfl⟩)
  | ok us =>
   rw [h] at h6
   refine law_places.good w h6 hk7 hs rfl rfl (SP.resolve_nice h hn) ?_ (hsz hy)
   have h2 := h
   unfold SP.resolve at h2
   rw [SP.cnt_eq] at hc
   split at h2
   ·have := SP.parts_len slots _ _ _ _ _ h2
    simp only [List.length_nil] at this
    show us.length ≤ 1000000
    omega
   ·cases h2
 ·rw [show resolvedS x y slots = ([], 0, y, false) from if_neg hy] at h6
  exact law_places.skip w h6 hk7 hs (.inl rfl)
theorem law_places.all (s : ByteArray) (m : Bool) (slots : List ByteArray) (As : Option Addr) (cs : Nat) (w : World) (hs : SL (fun k => k < w.heap.size) w As cs slots) : Calls Try.prog 5 #[.string s, .bool m, .slice As slots.length cs] w fun e w' => e = .returned (.bool true) ∧ Below w.heap.size w w' := by
 cases m with
 | false =>
  exact law_places.of (fun w As cs hs => law_resolved.plain (tree_parse.all s) (by have := parseS_cnt s; omega) w hs) (fun h => by
   obtain ⟨ts, l2, _, _, _, h1, h2⟩ := parseS_ok h
   exact ⟨h1, h2⟩) (fun h => by
   obtain ⟨ts, l2, h1, _⟩ := parseS_ok h
   exact h1) w hs
 | true =>
  exact law_places.of (fun w As cs hs => law_resolved.meth (tree_parse.all s) (tree_method.all s) (by have := methS_cnt s; omega) w hs) (fun h => (methS_ok h).2) (fun h => (methS_ok h).1) w hs
end Go.Proofs.Ytpodpmjlkbbkoaa.P
namespace Go.Proofs.Ytpodpmjlkbbkoaa.P
open Go.ChangeShapes Go.WideShapes Go.ChangeAt Go.RowKit Go.Proofs.YtpodpmjlkbbkoaaW.PrintWords
open Go.ChangeMaps (open_string shut_string)
theorem own_ : ownKnob Try.prog.godebug = none := by kernel_rfl
theorem laidOut_ : laidOutB Try.prog = true := by kernel_rfl
theorem cells9_ : Try.prog.cellsOf 9 = 1 := by kernel_rfl
theorem bulk_strs {H : Type} : ∀ ss : List ByteArray, ss.length ≤ Rows.uptoBulkAll (strs ss : List (DataW H))
 | [] => Nat.zero_le _
 | s :: l => by
  have := bulk_strs (H := H) l
  simp only [strs, List.map_cons, Rows.uptoBulkAll, Rows.uptoBulk, List.length_cons] at this ⊢
  omega
set_option maxRecDepth 100000 in
theorem open_slots {H : Type} {enc : TypeId × Value → H} {W : World} {base b0 : Nat} {sp : Nat → Bool} {v : Value} {d : DataW H} {p : List MemPlace} (hv : Value.okWide Try.prog W .any base 22 v) (h : DataW.Trod enc Try.prog W b0 sp true 22 v d p) :
  ∃ (A : Option Addr) (c : Nat) (l : List ByteArray), v = .slice A l.length c ∧ l.length ≤ c ∧ Kd.string.C W A l.length l ∧ l.length ≤ Rows.uptoBulk d := by
 obtain ⟨a0, len, cap, rfl⟩ := okWide_slice Try.underlying22 hv
 obtain ⟨fuel, hf⟩ := h
 rcases open_strings Try.underlying22 Try.underlying9 cells9_ hf with ⟨hcs, hx⟩ | ⟨a, len', cap', ss, hcs, _, hl, hm, hlen, hx, hcell, _⟩
 ·simp [Value.cells] at hcs
  obtain ⟨rfl, rfl, rfl⟩ := hcs
  exact ⟨none, 0, [], rfl, Nat.le_refl _, ⟨rfl, by simp, fun h => by simp at h⟩, Nat.zero_le _⟩
 ·simp [Value.cells] at hcs
  obtain ⟨rfl, rfl, rfl⟩ := hcs
  simp only [Prod.mk.injEq] at hx
  obtain ⟨rfl, rfl⟩ := hx
  have hls : len ≤ ss.length := by rw [hlen]; split <;> omega
  have hlt : (ss.take len).length = len := by rw [List.length_take]; omega
  refine ⟨some a, cap, ss.take len, by rw [hlt], by rw [hlt]; exact hl, ?_, ?_⟩
  ·refine Kd.C_of_reads (enc := Value.string) (d := ByteArray.empty) (h1 := fun _ => rfl) ⟨rfl, by rw [hlt]; simp only [maxLen] at hm; omega, fun h0 => ⟨a, rfl, fun j hj => ?_⟩⟩
   rw [hlt] at hj
   rw [hcell j (by omega)]
   congr 2
   simp only [List.getD_eq_getElem?_getD]
   rw [List.getElem?_take, if_pos hj]
  ·have := bulk_strs (H := H) (ss.take len)
   simp only [Rows.uptoBulk]
   omega
end Go.Proofs.Ytpodpmjlkbbkoaa.P
namespace Go.Proofs.Ytpodpmjlkbbkoaa.scopePlacesW
open Go.ChangeShapes Go.WideShapes Go.ChangeAt Go.RowKit
open Go.ChangeMaps (open_string shut_string)
theorem laid_met (os : Os) : laidMetH Try.prog Rows.scopePlacesRow.laid ((World.laidAll Try.prog os Rows.scopePlacesRow.laid).forCall (fun _ _ => 0) ⟨#[], #[.string ByteArray.empty, .bool false, .slice none 0 0], []⟩).memory := by
 rw [MakeChecks.laidMetH_plain _ _ _ (by kernel_rfl)]
 exact laidMet_laidAll _ (by kernel_rfl) (by kernel_rfl)
theorem reads (os : Os) {H : Type} (enc : TypeId × Value → H) : ∃ places, DataW.whole enc Try.prog ((World.laidAll Try.prog os Rows.scopePlacesRow.laid).forCall (fun _ _ => 0) ⟨#[], #[.string ByteArray.empty, .bool false, .slice none 0 0], []⟩).memory Try.f5.params.toList Rows.scopePlacesSpec.vars false #[Value.string ByteArray.empty, Value.bool false, Value.slice none 0 0].toList 8 = some ([.lit (.string []), .lit (.bool false), .nil], [], places) :=
 ⟨[], by kernel_rfl⟩
set_option maxRecDepth 100000 in
theorem okB (os : Os) : Input.okWideB Try.prog ((World.laidAll Try.prog os Rows.scopePlacesRow.laid).forCall (fun _ _ => 0) ⟨#[], #[.string ByteArray.empty, .bool false, .slice none 0 0], []⟩) 5 ⟨#[], #[.string ByteArray.empty, .bool false, .slice none 0 0], []⟩ = true := by kernel_rfl
set_option maxRecDepth 100000 in
theorem lifted (os : Os) (started : os.Started) (H : Type) (enc : TypeId × Value → H) (F : Stop.Interp) :
  ReturnsInHanded {} Try.checked os 5 .any ((OpenSpec.ofChange Rows.scopePlacesSpec).preRow enc Try.prog Try.f5 Rows.scopePlacesRow.domain false Rows.scopePlacesRow.laid) (((OpenSpec.ofChange Rows.scopePlacesSpec).at F).post enc Try.prog Try.f5 false true false false) := by
 obtain ⟨places, hx⟩ := reads os enc
 refine returnsInHanded_of_row (C := Try.checked) (s := (OpenSpec.ofChange Rows.scopePlacesSpec)) P.own_ started (by kernel_rfl) Try.func5
  ⟨World.laidAll Try.prog os Rows.scopePlacesRow.laid, fun _ _ => 0, ⟨#[], #[.string ByteArray.empty, .bool false, .slice none 0 0], []⟩, World.laidAll_os _ _ _, World.shaped_of_ZipB (by kernel_rfl) (by kernel_rfl),
   (Input.okWide_of_okWideB (base := 0) (okB os)).1, (Input.okWide_of_okWideB (okB os)).2,
   OpenSpec.preRow_of_cond 8 hx (by kernel_rfl) (fun k hk => by cases hk) (by kernel_rfl) (laid_met os), by
    simp only [Assume.holds]
    exact ⟨by simp, by simp, fun _ => Modest.zero, by simp, by simp⟩⟩ ?_
 intro W base args ds gs before hval0 hW hcnd hcond hsz0 hL _ _
 have hsz : (DataW.weightsEach Try.prog (Try.f5.params.toList ++ Rows.scopePlacesSpec.plain.varTypes Try.prog) (ds ++ gs)).all (· ≤ reachBytes) = true := hsz0
 have hval : ∀ (j : Nat) t v, Try.f5.params[j]? = some t → args[j]? = some v → Value.okWide Try.prog W .any base t v := hval0
 have hW' := hW
 obtain ⟨p, q, hA0, hV, rfl, hfz, hnd⟩ := hW
 have hA : DataW.TrodAll enc Try.prog W 0 (fun _ => true) true Try.f5.params.toList args.toList ds p := hA0
 rw [Try.params5] at hA hval hsz
 obtain ⟨v0, vs0, d0, ds0, p0, q0, hargs, rfl, rfl, h0, r0⟩ := trodAll_cons hA
 obtain ⟨v1, vs1, d1, ds1, p1, q1, rfl, rfl, rfl, h1, r1⟩ := trodAll_cons r0
 obtain ⟨v2, vs2, d2, ds2, p2, q2, rfl, rfl, rfl, h2, r2⟩ := trodAll_cons r1
 obtain ⟨rfl, rfl, rfl⟩ := trodAll_nil r2
 obtain rfl : args = #[v0, v1, v2] := by cases args; simp_all
 obtain ⟨rfl, rfl⟩ := trodVars_none hV
 have lt0 : ∀ x ∈ p0, x.block < W.heap.size := by obtain ⟨m, hm⟩ := h0; exact DataW.trod_lt m _ _ _ hm
 have k0 := h0
 have lt1 : ∀ x ∈ p1, x.block < W.heap.size := by obtain ⟨m, hm⟩ := h1; exact DataW.trod_lt m _ _ _ hm
 have k1 := h1
 have lt2 : ∀ x ∈ p2, x.block < W.heap.size := by obtain ⟨m, hm⟩ := h2; exact DataW.trod_lt m _ _ _ hm
 have k2 := h2
 obtain ⟨a0, e0, _, _, y0⟩ := open_string Try.underlying9 (hval 0 9 v0 rfl rfl) h0
 subst e0
 obtain ⟨a1, e1, _⟩ := open_bool Try.underlying4 (hval 1 4 v1 rfl rfl) h1
 subst e1
 obtain ⟨A2, c2, l2, e2, hc2, hC2, hl2⟩ := P.open_slots (hval 2 22 v2 rfl rfl) h2
 subst e2
 clear hA0 hval0 hsz0 hsz
 refine (P.law_places.all a0 a1 l2 A2 c2 W (P.SL.of_C hc2 hC2)).mono fun e W' ⟨he, bel⟩ => ?_
 subst he
 exact ⟨_, rfl, _, _, _, [], _, [], hW', trodAll_mk1 (shut_bool Try.underlying4 _), (trodAll_cons_mk (Below.trod P.laidOut_ (by kernel_rfl) (of_decide_eq_true (by kernel_rfl)) k0 bel lt0) (trodAll_cons_mk (Below.trod P.laidOut_ (by kernel_rfl) (of_decide_eq_true (by kernel_rfl)) k1 bel lt1) (trodAll_cons_mk (Below.trod P.laidOut_ (by kernel_rfl) (of_decide_eq_true (by kernel_rfl)) k2 bel lt2) trodAll_mk0))), rfl, bel.frame _, fun h => by cases h⟩
end Go.Proofs.Ytpodpmjlkbbkoaa.scopePlacesW
namespace Go.Proofs.Ytpodpmjlkbbkoaa
theorem scopePlaces_holds : Rows.ScopePlacesSaid :=
 OpenClaim.holds_of_cond 5 Try.f5 rfl rfl rfl rfl rfl rfl rfl ⟨rfl, rfl, rfl, rfl, rfl⟩ rfl rfl rfl rfl rfl (by kernel_rfl) Try.func5 (by kernel_rfl)
  (of_decide_eq_true (by kernel_rfl)) (by unfold Func.isWrapper; first | (rw [if_pos (by decide +kernel)]; kernel_rfl) | (rw [if_neg (by decide +kernel)]; exact ⟨rfl, rfl⟩))
  (fun os started H enc _ F => by rw [OpenClaim.pre_eq_preRow]; exact scopePlacesW.lifted os started H enc F)
end Go.Proofs.Ytpodpmjlkbbkoaa
