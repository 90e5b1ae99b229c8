/-
The words of any source stand one behind the other, each within it: for every text.
-/
import Derived.Test.YtfjbhccapgnkiaaDoorT5
import Derived.Test.YtfjbhccapgnkiaaDoorPC
import Derived.Test.YtfjbhccapgnkiaaDoorCards
import Derived.Test.YtfjbhccapgnkiaaDoorTie
import Derived.WalkKit
import Derived.ProofKit
import Derived.OpenShut
import Derived.ShutString
import Derived.ChangeOld
import Derived.Below
import Derived.SizedLaws
import Derived.LaidMore
import Derived.Lay
import Derived.SevenTiedAt
import Derived.Stop.Joined
namespace Go.Proofs.YtfjbhccapgnkiaaDoor.P
open Go.RowKit Go.Proofs.YtfjbhccapgnkiaaDoorW.PrintWords Go.Proofs.YtfjbhccapgnkiaaDoorW.PrintLast Go.Proofs.YtfjbhccapgnkiaaDoorW.PrintMore
set_option linter.unusedVariables false
set_option linter.unusedSimpArgs false
section
variable {s : ByteArray} {ts : List PL.Tk} (hs : s.size ≤ 4096) (h : PL.Rd (okL okNum) s.data.toList 0 ts)
include hs h
theorem places_loop : ∀ (d i : Nat) (last : Int), d + i = ts.length → (∀ hi : i < ts.length, last < ((ts[i].place : Nat) : Int)) → Ev (fun k => lapidarylaw07_LexPlaces.l0 k s (ts.map tk) last (i : Int)) true
  | 0, i, last, hd, hl => by
    obtain ⟨p1, p2, p3, p4⟩ := h.places
    have hlen := rd_len h
    rw [slen] at hlen
    have hi : i = ts.length := by omega
    refine Ev.step (fun k => ?_) known_then
    simp only [lapidarylaw07_LexPlaces.l0]
    have hw := Aside0.mk (wrap_in (((ts.map tk).length : Int) - 1) (by rw [List.length_map]; omega) (by rw [List.length_map]; omega)).1
    have hw2 : ((ts.map tk).length : Int) - 1 = ((ts.length - 1 : Nat) : Int) := by rw [List.length_map]; omega
    have hlast : (ts[ts.length - 1]'(by omega)).place = s.size := by
      have := (p4 (ts[ts.length - 1]'(by omega)) (by rw [List.getLast?_eq_getElem?, List.getElem?_eq_getElem (by omega)]; exact rfl)).1
      rw [slen] at this
      omega
    rw [hw.out, hw2, if_neg (by rw [List.length_map]; omega), if_pos (by rw [List.length_map]; omega), if_pos (by omega), if_pos (by rw [List.length_map]; omega), tk_at _ _ (by omega), if_pos (by
      show ((ts[ts.length - 1]'(by omega)).place : Int) = (s.size : Int)
      rw [hlast])]
  | d + 1, i, last, hd, hl => by
    obtain ⟨p1, p2, p3, p4⟩ := h.places
    have hi : i < ts.length := by omega
    have hlen := rd_len h
    rw [slen] at hlen
    have hm : ts[i] ∈ ts := List.getElem_mem hi
    have hple := h.place_le _ hm
    rw [slen] at hple
    have hl1 := hl hi
    have hk := p1 i hi
    have hw := Aside0.mk (wrap_in (((ts.map tk).length : Int) - 1) (by rw [List.length_map]; omega) (by rw [List.length_map]; omega)).1
    have hx54 : (((tk ts[i]).f0 == 0) != ((i : Int) == wrap64 (((ts.map tk).length : Int) - 1))) = false := by
      rw [hw.out]
      have e1 : ((tk ts[i]).f0 == 0) = decide (ts[i].kind = 0) := by
        rw [Bool.eq_iff_iff, beq_iff_eq, decide_eq_true_eq]
        show ((ts[i].kind : Int) = 0) ↔ _
        omega
      have e2 : ((i : Int) == ((ts.map tk).length : Int) - 1) = decide (i + 1 = ts.length) := by
        rw [Bool.eq_iff_iff, beq_iff_eq, decide_eq_true_eq, List.length_map]
        omega
      rw [e1, e2, show decide (ts[i].kind = 0) = decide (i + 1 = ts.length) from decide_eq_decide.2 hk]
      simp
    have hnext : Ev (fun k => lapidarylaw07_LexPlaces.l0 k s (ts.map tk) (tk ts[i]).f2 (wrap64 ((i : Int) + 1))) true := by
      rw [wrap_succ i (by omega)]
      refine places_loop d (i + 1) _ (by omega) (fun hi1 => ?_)
      have := p2 i hi1
      show ((ts[i].place : Nat) : Int) < _
      omega
    refine Ev.step (f := fun k => lapidarylaw07_LexPlaces.j1 k s (ts.map tk) (i : Int) false (tk ts[i]).f0 (tk ts[i]).f1 (tk ts[i]).f2) (fun k => ?_) ?_
    · simp only [lapidarylaw07_LexPlaces.l0]
      rw [if_pos (by rw [List.length_map]; omega), if_pos (by omega), tk_at _ _ hi, if_neg (by show ¬ ((ts[i].place : Nat) : Int) ≤ last; omega), if_neg (by show ¬ ((ts[i].place : Nat) : Int) > _; omega), hx54]
    · by_cases k5 : ts[i].kind = 5
      · refine Ev.step (fun k => ?_) hnext
        simp only [lapidarylaw07_LexPlaces.j1]
        rw [if_neg (by simp), if_pos (by show ((ts[i].kind : Nat) : Int) = 5; omega)]
      by_cases k6 : ts[i].kind = 6
      · refine Ev.step (fun k => ?_) hnext
        simp only [lapidarylaw07_LexPlaces.j1]
        rw [if_neg (by simp), if_neg (by show ¬ ((ts[i].kind : Nat) : Int) = 5; omega), if_pos (by show ((ts[i].kind : Nat) : Int) = 6; omega)]
      by_cases k0 : ts[i].kind = 0
      · refine Ev.step (fun k => ?_) hnext
        simp only [lapidarylaw07_LexPlaces.j1]
        rw [if_neg (by simp), if_neg (by show ¬ ((ts[i].kind : Nat) : Int) = 5; omega), if_neg (by show ¬ ((ts[i].kind : Nat) : Int) = 6; omega), if_pos (by show ((ts[i].kind : Nat) : Int) = 0; omega)]
      · obtain ⟨q1, q2, q3⟩ := p3 _ hm k5 k6 k0
        rw [slen] at q2
        have hsz : (tk ts[i]).f1.size = ts[i].text.length := mk_size _
        have hf2 : (tk ts[i]).f2 = ((ts[i].place : Nat) : Int) := rfl
        have hw1 := Aside0.mk (wrap_in ((s.size : Int) - (tk ts[i]).f2) (by rw [hf2]; omega) (by rw [hf2]; omega)).1
        have hw2 := Aside0.mk (wrap_in ((tk ts[i]).f2 + ((tk ts[i]).f1.size : Int)) (by rw [hf2]; omega) (by rw [hf2]; omega)).1
        refine Ev.step (fun k => ?_) hnext
        simp only [lapidarylaw07_LexPlaces.j1]
        rw [hw1.out, hw2.out, if_neg (by simp), if_neg (by show ¬ ((ts[i].kind : Nat) : Int) = 5; omega), if_neg (by show ¬ ((ts[i].kind : Nat) : Int) = 6; omega), if_neg (by show ¬ ((ts[i].kind : Nat) : Int) = 0; omega),
          if_neg (by rw [hsz]; omega), if_neg (by rw [hsz, hf2]; omega), if_pos (by rw [hf2]; omega), if_pos (by omega), if_pos (by rw [hsz, hf2]; omega), if_pos]
        have e : ((tk ts[i]).f2 + ((tk ts[i]).f1.size : Int)).toNat = ts[i].place + ts[i].text.length := by rw [hsz, hf2]; omega
        rw [e, hf2, Int.toNat_natCast]
        have e3 : (tk ts[i]).f1.toList = ts[i].text := mk_toList _
        rw [e3]
        exact extract_eq s _ _ _ q3
end
theorem lexPlaces_plain : lapidarylaw07_LexPlaces.Pure := by
  intro s hs0
  refine Ev.rounds ?_
  rcases readS_cases okNum s with ⟨hs, ts, h, e⟩ | ⟨hs, p, h, e⟩ | ⟨hs, e⟩
  · refine Ev.congr (fun k => ?_) (places_loop hs h ts.length 0 (-1) (by omega) (fun hi => by omega))
    unfold lapidarylaw07_LexPlaces.f lex_Read.f
    rw [e, Option.bind_some]
    rfl
  · refine Ev.congr (fun k => ?_) known_then
    unfold lapidarylaw07_LexPlaces.f lex_Read.f
    rw [e, Option.bind_some]
    rfl
  · refine Ev.congr (fun k => ?_) known_then
    unfold lapidarylaw07_LexPlaces.f lex_Read.f
    rw [e, Option.bind_some]
    rfl
end Go.Proofs.YtfjbhccapgnkiaaDoor.P
namespace Go.Proofs.YtfjbhccapgnkiaaDoor.lexPlacesW
open Go.ChangeShapes Go.WideShapes Go.ChangeAt Go.RowKit
open Go.ChangeMaps (open_string shut_string)
set_option linter.unusedVariables false
theorem own : ownKnob Tryd.prog.godebug = none := by kernel_rfl
set_option maxRecDepth 100000 in
theorem lifted (os : Os) (started : os.Started) (H : Type) (enc : TypeId × Value → H) :
    ReturnsInHanded {} Tryd.checked os 5 .any (fun w args => (Rows.lexPlacesSpec.pre enc Tryd.prog Tryd.f5 Rows.lexPlacesRow.domain false w args ∧ laidMetH Tryd.prog Rows.lexPlacesRow.laid w) ∧ sizedMet enc Tryd.prog Tryd.f5 (OpenSpec.ofChange Rows.lexPlacesSpec) false w args)
      (Rows.lexPlacesSpec.post enc Tryd.prog Tryd.f5 false true false false) := by
  refine returnsInHanded_of_change_and (C := Tryd.checked) (X := fun w _ => laidMetH Tryd.prog Rows.lexPlacesRow.laid w) (fun _ _ _ hh h => h.of_heap hh) own started (by kernel_rfl) Tryd.func5
    (ChangeSpec.witness_shaped (enc := enc) (C := Tryd.checked) (os := os) (X := fun w _ => laidMetH Tryd.prog Rows.lexPlacesRow.laid w) false (World.laidAll Tryd.prog os Rows.lexPlacesRow.laid) #[.string ByteArray.empty] 8 (World.laidAll_os _ _ _)
      (World.shaped_of_ZipB (by kernel_rfl) (by kernel_rfl)) (by kernel_rfl) (by kernel_rfl) (by kernel_rfl)
      (by rw [MakeChecks.laidMetH_plain _ _ _ (by kernel_rfl)]; exact laidMet_laidAll _ (by kernel_rfl) (by kernel_rfl))) ?_
  intro W base args ds gs before hval0 hW hcnd hsz0 hL _
  have hsz : (DataW.weightsEach Tryd.prog (Tryd.f5.params.toList ++ Rows.lexPlacesSpec.plain.varTypes Tryd.prog) (ds ++ gs)).all (· ≤ reachBytes) = true := hsz0
  have hval : ∀ (j : Nat) t v, Tryd.f5.params[j]? = some t → args[j]? = some v → Value.okWide Tryd.prog W .any base t v := hval0
  have hW' := hW
  obtain ⟨p, q, hA0, hV, rfl, hfz, hnd⟩ := hW
  have hA : DataW.TrodAll enc Tryd.prog W 0 (fun _ => true) true Tryd.f5.params.toList args.toList ds p := hA0
  rw [Tryd.params5] at hA hval hsz
  obtain ⟨v0, vs0, d0, ds0, p0, q0, hargs, rfl, rfl, h0, r0⟩ := trodAll_cons hA
  obtain ⟨rfl, rfl, rfl⟩ := trodAll_nil r0
  obtain rfl : args = #[v0] := by cases args; simp_all
  obtain ⟨rfl, rfl⟩ := trodVars_none hV
  obtain ⟨a0, rfl, rfl, rfl, y0⟩ := open_string Tryd.underlying9 (hval 0 9 v0 rfl rfl) h0
  have w0 : a0.size ≤ 140737488351232 := by
    have z := sized_string hsz (j := 0) (t := 9) rfl rfl
    rw [Array.length_toList] at z
    exact z
  clear hA0 hval0 hsz0 hsz
  refine (P.lapidarylaw07_LexPlaces.walk P.lexPlaces_plain a0 W w0).mono fun e W' ⟨he, bel⟩ => ?_
  subst he
  exact ⟨_, rfl, _, _, _, [], _, [], hW', trodAll_mk1 (shut_bool Tryd.underlying4 _), (trodAll_cons_mk (shut_string Tryd.underlying9 y0) trodAll_mk0), rfl, bel.frame _, fun h => by cases h⟩
theorem over : Rows.LexPlacesSaid :=
  OpenClaim.holds_of_wide 5 Tryd.f5 rfl rfl rfl rfl rfl rfl rfl ⟨rfl, rfl, rfl, rfl, rfl⟩ rfl rfl rfl rfl rfl (by kernel_rfl) Tryd.func5 (by kernel_rfl)
    (of_decide_eq_true (by kernel_rfl)) (by unfold Func.isWrapper; first | (rw [if_pos (by decide +kernel)]; kernel_rfl) | (rw [if_neg (by decide +kernel)]; exact ⟨rfl, rfl⟩))
    (fun os started H enc _ => lifted os started H enc)
theorem plain (f : FuncId) (fn : Func) (hf : Tryd.pinned.checked.prog.funcNamed "lapidary/lapidarylaw07.LexPlaces" = some f) (hfn : Tryd.pinned.checked.prog.funcs[f]? = some fn) :
    false = Tryd.pinned.checked.prog.looks [] ∧ ∀ (j : Nat) t, fn.params[j]? = some t → Tryd.pinned.checked.prog.wantsStandIn t = false := by
  obtain rfl : f = 5 := Option.some.inj ((show Tryd.prog.funcNamed "lapidary/lapidarylaw07.LexPlaces" = some 5 by kernel_rfl).symm.trans hf) |>.symm
  obtain rfl : fn = Tryd.f5 := (Option.some.inj (Tryd.func5.symm.trans hfn)).symm
  refine ⟨by kernel_rfl, fun j t ht => ?_⟩
  rw [Tryd.params5] at ht
  have hm : t ∈ [9] := by simpa using Array.mem_of_getElem? ht
  have hall : ([9].all fun u => !Tryd.prog.wantsStandIn u) = true := by kernel_rfl
  exact (show Tryd.prog.wantsStandIn t = false by simpa using List.all_eq_true.1 hall t hm)
end Go.Proofs.YtfjbhccapgnkiaaDoor.lexPlacesW
namespace Go.Proofs.YtfjbhccapgnkiaaDoor
/-- The card. -/
theorem lexPlaces_card : Rows.LexPlacesCardSaid :=
  Claim7.holds_tied_plain_at .later [] _ _ _ _ lexPlacesW.over (fun _ h => by cases h) (by kernel_rfl) (fun _ h => by cases h) lexPlaces_row_tie rfl ⟨rfl, rfl⟩ (by kernel_rfl) rfl lexPlacesW.plain (by kernel_rfl)
end Go.Proofs.YtfjbhccapgnkiaaDoor
