/-
Of a source that can be read, what stands ahead of a word's place has just the words ahead of that: for every text and every number.
-/
import Derived.Test.YtfjbhccapgnkiaaDoorT4
import Derived.Test.YtfjbhccapgnkiaaDoorPC
import Derived.Test.YtfjbhccapgnkiaaDoorCards
import Derived.Test.YtfjbhccapgnkiaaDoorTie
import Derived.WalkKit
import Derived.ProofKit
import Derived.OpenShut
import Derived.ShutString
import Derived.ChangeOld
import Derived.Below
import Derived.SizedLaws
import Derived.LaidMore
import Derived.Lay
import Derived.SevenTiedAt
import Derived.Stop.Joined
namespace Go.Proofs.YtfjbhccapgnkiaaDoor.P
open Go.RowKit Go.Proofs.YtfjbhccapgnkiaaDoorW.PrintWords Go.Proofs.YtfjbhccapgnkiaaDoorW.PrintLast Go.Proofs.YtfjbhccapgnkiaaDoorW.PrintMore
set_option linter.unusedVariables false
set_option linter.unusedSimpArgs false
theorem cut_loop (ts us : List PL.Tk) (j : Nat) (hj : j < ts.length) (hu : us.length = j + 1) (hl : ts.length ≤ 4194304) (hs : ∀ i (h : i < j), us[i]'(by omega) = ts[i]'(by omega)) (hk : (us[j]'(by omega)).kind = 0) :
    ∀ (d i : Nat), d + i = j → Ev (fun k => lapidarylaw07_LexCut.l0 k (j : Int) (ts.map tk) (us.map tk) (i : Int)) true
  | 0, i, h => by
    refine Ev.step (fun k => ?_) known_then
    simp only [lapidarylaw07_LexCut.l0]
    rw [if_neg (by omega), if_pos (by omega), if_pos (by rw [List.length_map]; omega), tk_at us j (by omega), if_pos (by show (((us[j]'(by omega)).kind : Nat) : Int) = 0; omega)]
  | d + 1, i, h => by
    refine Ev.step (fun k => ?_) (cut_loop ts us j hj hu hl hs hk d (i + 1) (by omega))
    simp only [lapidarylaw07_LexCut.l0]
    have e : tk (us[i]'(by omega)) = tk (ts[i]'(by omega)) := by rw [hs i (by omega)]
    rw [if_pos (by omega), if_pos (by omega), if_pos (by rw [List.length_map]; omega), if_pos (by rw [List.length_map]; omega), tk_at us i (by omega), tk_at ts i (by omega), if_neg (by rw [same_tk e]; exact id), wrap_succ i (by omega)]
theorem extract_zero (s : ByteArray) (n : Nat) : (s.extract 0 n).data.toList = s.data.toList.take n := by
  rw [Lib.extract_data, List.drop_zero, Nat.sub_zero]
theorem cut_at {s : ByteArray} {ts : List PL.Tk} (hs : s.size ≤ 4096) (h : PL.Rd (okL okNum) s.data.toList 0 ts) (j : Nat) (hj : j < ts.length) : Ev (fun k => lapidarylaw07_LexCut.j2 k s (j : Int) (ts.map tk)) true := by
  have hlen := rd_len h
  rw [slen] at hlen
  have hple := h.place_le _ (List.getElem_mem hj)
  rw [slen] at hple
  have hf2 : (tk ts[j]).f2 = ((ts[j].place : Nat) : Int) := rfl
  have hcut := h.cut j hj
  rw [Nat.sub_zero] at hcut
  have hrd : lex_Read.f (s.extract 0 ts[j].place) = some ((ts.take j ++ [(⟨0, [], ts[j].place⟩ : PL.Tk)]).map tk, 0, 0) := by
    unfold lex_Read.f
    rw [readS_ok (by rw [ByteArray.size_extract]; omega) (by rw [extract_zero]; exact hcut.read)]
  have hul : (ts.take j ++ [(⟨0, [], ts[j].place⟩ : PL.Tk)]).length = j + 1 := by simp; omega
  have hloop := cut_loop ts (ts.take j ++ [(⟨0, [], ts[j].place⟩ : PL.Tk)]) j hj hul (by omega) (fun i hi => by rw [List.getElem_append_left (by simp; omega)]; simp) (by rw [List.getElem_append_right (by simp; omega)]; simp) j 0 (by omega)
  refine Ev.step (f := fun k => lapidarylaw07_LexCut.j3 k s (j : Int) (ts.map tk) false) (fun k => ?_) ?_
  · simp only [lapidarylaw07_LexCut.j2]
    rw [if_pos (by omega), if_pos (by rw [List.length_map]; omega), tk_at ts j hj, if_neg (by rw [hf2]; omega)]
    congr 1
    exact decide_eq_false (by rw [hf2]; omega)
  refine Ev.step (f := fun k => lapidarylaw07_LexCut.j4 k (j : Int) (ts.map tk) ((ts.take j ++ [(⟨0, [], ts[j].place⟩ : PL.Tk)]).map tk) false) (fun k => ?_) ?_
  · simp only [lapidarylaw07_LexCut.j3]
    have hw := (wrap_in ((j : Int) + 1) (by omega) (by omega)).1
    rw [if_neg (by simp), if_pos (by clear hw; omega), if_pos (by rw [List.length_map]; clear hw; omega), tk_at ts j hj, hf2, if_pos (by clear hw; omega), if_pos (by clear hw; omega), Int.toNat_natCast, hrd, Option.bind_some]
    simp only
    rw [if_pos trivial, hw, List.length_map, hul]
    congr 1
    simp
  refine Ev.step (fun k => ?_) hloop
  simp only [lapidarylaw07_LexCut.j4]
  rw [if_neg (by simp)]
  rfl
theorem lexCut_plain : lapidarylaw07_LexCut.Pure := by
  intro s a1 hs0 ha
  refine Ev.rounds ?_
  have bad : ∀ p r, r ≠ 0 → readS okNum s = ([], p, r) → Ev (fun k => lapidarylaw07_LexCut.f k s a1) true := by
    intro p r hr e
    refine Ev.congr (f := fun k => lapidarylaw07_LexCut.j0 k s a1 [] r true) (fun k => ?_) (Ev.step (fun k => ?_) known_then)
    · unfold lapidarylaw07_LexCut.f lex_Read.f
      rw [e, Option.bind_some]
      simp only
      rw [if_neg hr]
    · simp only [lapidarylaw07_LexCut.j0]
      rw [if_pos trivial, if_neg hr]
  rcases readS_cases okNum s with ⟨hs, ts, h, e⟩ | ⟨hs, p, h, e⟩ | ⟨hs, e⟩
  · have hlen := rd_len h
    rw [slen] at hlen
    refine Ev.congr (f := fun k => lapidarylaw07_LexCut.j0 k s a1 (ts.map tk) 0 false) (fun k => ?_) ?_
    · unfold lapidarylaw07_LexCut.f lex_Read.f
      rw [e, Option.bind_some]
      simp only
      rw [if_pos trivial]
      congr 1
      rw [List.length_map]
      exact beq_eq_false_iff_ne.2 (by omega)
    by_cases hin : 0 ≤ a1 ∧ a1 < (ts.length : Int)
    · obtain ⟨j, hj⟩ : ∃ j : Nat, a1 = j := ⟨a1.toNat, by omega⟩
      subst hj
      have hj : j < ts.length := by omega
      refine Ev.step (f := fun k => lapidarylaw07_LexCut.j1 k s (j : Int) (ts.map tk) false) (fun k => ?_) (Ev.step (fun k => ?_) (cut_at hs h j hj))
      · simp only [lapidarylaw07_LexCut.j0]
        rw [if_neg (by simp), if_neg (by omega)]
        congr 1
        exact decide_eq_false (by rw [List.length_map]; omega)
      · simp only [lapidarylaw07_LexCut.j1]
        rw [if_neg (by simp)]
    · refine Ev.step (f := fun k => lapidarylaw07_LexCut.j1 k s a1 (ts.map tk) true) (fun k => ?_) (Ev.step (fun k => ?_) (cut_at hs h 0 (by omega)))
      · simp only [lapidarylaw07_LexCut.j0]
        rw [if_neg (by simp)]
        split
        · rfl
        · congr 1
          exact decide_eq_true (by rw [List.length_map]; omega)
      · simp only [lapidarylaw07_LexCut.j1]
        rw [if_pos trivial]
        rfl
  · exact bad _ _ (by decide) e
  · exact bad _ _ (by decide) e
end Go.Proofs.YtfjbhccapgnkiaaDoor.P
namespace Go.Proofs.YtfjbhccapgnkiaaDoor.lexCutW
open Go.ChangeShapes Go.WideShapes Go.ChangeAt Go.RowKit
open Go.ChangeMaps (open_string shut_string)
set_option linter.unusedVariables false
theorem own : ownKnob Tryd.prog.godebug = none := by kernel_rfl
set_option maxRecDepth 100000 in
theorem lifted (os : Os) (started : os.Started) (H : Type) (enc : TypeId × Value → H) :
    ReturnsInHanded {} Tryd.checked os 4 .any (fun w args => (Rows.lexCutSpec.pre enc Tryd.prog Tryd.f4 Rows.lexCutRow.domain false w args ∧ laidMetH Tryd.prog Rows.lexCutRow.laid w) ∧ sizedMet enc Tryd.prog Tryd.f4 (OpenSpec.ofChange Rows.lexCutSpec) false w args)
      (Rows.lexCutSpec.post enc Tryd.prog Tryd.f4 false true false false) := by
  refine returnsInHanded_of_change_and (C := Tryd.checked) (X := fun w _ => laidMetH Tryd.prog Rows.lexCutRow.laid w) (fun _ _ _ hh h => h.of_heap hh) own started (by kernel_rfl) Tryd.func4
    (ChangeSpec.witness_shaped (enc := enc) (C := Tryd.checked) (os := os) (X := fun w _ => laidMetH Tryd.prog Rows.lexCutRow.laid w) false (World.laidAll Tryd.prog os Rows.lexCutRow.laid) #[.string ByteArray.empty, .int .i64 0] 8 (World.laidAll_os _ _ _)
      (World.shaped_of_ZipB (by kernel_rfl) (by kernel_rfl)) (by kernel_rfl) (by kernel_rfl) (by kernel_rfl)
      (by rw [MakeChecks.laidMetH_plain _ _ _ (by kernel_rfl)]; exact laidMet_laidAll _ (by kernel_rfl) (by kernel_rfl))) ?_
  intro W base args ds gs before hval0 hW hcnd hsz0 hL _
  have hsz : (DataW.weightsEach Tryd.prog (Tryd.f4.params.toList ++ Rows.lexCutSpec.plain.varTypes Tryd.prog) (ds ++ gs)).all (· ≤ reachBytes) = true := hsz0
  have hval : ∀ (j : Nat) t v, Tryd.f4.params[j]? = some t → args[j]? = some v → Value.okWide Tryd.prog W .any base t v := hval0
  have hW' := hW
  obtain ⟨p, q, hA0, hV, rfl, hfz, hnd⟩ := hW
  have hA : DataW.TrodAll enc Tryd.prog W 0 (fun _ => true) true Tryd.f4.params.toList args.toList ds p := hA0
  rw [Tryd.params4] at hA hval hsz
  obtain ⟨v0, vs0, d0, ds0, p0, q0, hargs, rfl, rfl, h0, r0⟩ := trodAll_cons hA
  obtain ⟨v1, vs1, d1, ds1, p1, q1, rfl, rfl, rfl, h1, r1⟩ := trodAll_cons r0
  obtain ⟨rfl, rfl, rfl⟩ := trodAll_nil r1
  obtain rfl : args = #[v0, v1] := by cases args; simp_all
  obtain ⟨rfl, rfl⟩ := trodVars_none hV
  obtain ⟨a0, rfl, rfl, rfl, y0⟩ := open_string Tryd.underlying9 (hval 0 9 v0 rfl rfl) h0
  have w0 : a0.size ≤ 140737488351232 := by
    have z := sized_string hsz (j := 0) (t := 9) rfl rfl
    rw [Array.length_toList] at z
    exact z
  obtain ⟨a1, rfl, rfl, rfl, w1⟩ := open_int Tryd.underlying3 (hval 1 3 v1 rfl rfl) h1
  clear hA0 hval0 hsz0 hsz
  refine (P.lapidarylaw07_LexCut.walk P.lexCut_plain a0 a1 W w0 w1).mono fun e W' ⟨he, bel⟩ => ?_
  subst he
  exact ⟨_, rfl, _, _, _, [], _, [], hW', trodAll_mk1 (shut_bool Tryd.underlying4 _), (trodAll_cons_mk (shut_string Tryd.underlying9 y0) (trodAll_cons_mk (shut_int Tryd.underlying3 w1) trodAll_mk0)), rfl, bel.frame _, fun h => by cases h⟩
theorem over : Rows.LexCutSaid :=
  OpenClaim.holds_of_wide 4 Tryd.f4 rfl rfl rfl rfl rfl rfl rfl ⟨rfl, rfl, rfl, rfl, rfl⟩ rfl rfl rfl rfl rfl (by kernel_rfl) Tryd.func4 (by kernel_rfl)
    (of_decide_eq_true (by kernel_rfl)) (by unfold Func.isWrapper; first | (rw [if_pos (by decide +kernel)]; kernel_rfl) | (rw [if_neg (by decide +kernel)]; exact ⟨rfl, rfl⟩))
    (fun os started H enc _ => lifted os started H enc)
theorem plain (f : FuncId) (fn : Func) (hf : Tryd.pinned.checked.prog.funcNamed "lapidary/lapidarylaw07.LexCut" = some f) (hfn : Tryd.pinned.checked.prog.funcs[f]? = some fn) :
    false = Tryd.pinned.checked.prog.looks [] ∧ ∀ (j : Nat) t, fn.params[j]? = some t → Tryd.pinned.checked.prog.wantsStandIn t = false := by
  obtain rfl : f = 4 := Option.some.inj ((show Tryd.prog.funcNamed "lapidary/lapidarylaw07.LexCut" = some 4 by kernel_rfl).symm.trans hf) |>.symm
  obtain rfl : fn = Tryd.f4 := (Option.some.inj (Tryd.func4.symm.trans hfn)).symm
  refine ⟨by kernel_rfl, fun j t ht => ?_⟩
  rw [Tryd.params4] at ht
  have hm : t ∈ [9,3] := by simpa using Array.mem_of_getElem? ht
  have hall : ([9,3].all fun u => !Tryd.prog.wantsStandIn u) = true := by kernel_rfl
  exact (show Tryd.prog.wantsStandIn t = false by simpa using List.all_eq_true.1 hall t hm)
end Go.Proofs.YtfjbhccapgnkiaaDoor.lexCutW
namespace Go.Proofs.YtfjbhccapgnkiaaDoor
/-- The card. -/
theorem lexCut_card : Rows.LexCutCardSaid :=
  Claim7.holds_tied_plain_at .later [] _ _ _ _ lexCutW.over (fun _ h => by cases h) (by kernel_rfl) (fun _ h => by cases h) lexCut_row_tie rfl ⟨rfl, rfl⟩ (by kernel_rfl) rfl lexCutW.plain (by kernel_rfl)
end Go.Proofs.YtfjbhccapgnkiaaDoor
