/-
Two sources with a blank between them have the words of the one, and then those of the other: for every two texts.
-/
import Derived.Test.YtfjbhccapgnkiaaDoorT3
import Derived.Test.YtfjbhccapgnkiaaDoorPC
import Derived.Test.YtfjbhccapgnkiaaDoorCards
import Derived.Test.YtfjbhccapgnkiaaDoorTie
import Derived.WalkKit
import Derived.ProofKit
import Derived.OpenShut
import Derived.ShutString
import Derived.ChangeOld
import Derived.Below
import Derived.SizedLaws
import Derived.LaidMore
import Derived.Lay
import Derived.SevenTiedAt
import Derived.Stop.Joined
namespace Go.Proofs.YtfjbhccapgnkiaaDoor.P
open Go.RowKit Go.Proofs.YtfjbhccapgnkiaaDoorW.PrintWords Go.Proofs.YtfjbhccapgnkiaaDoorW.PrintLast Go.Proofs.YtfjbhccapgnkiaaDoorW.PrintMore
set_option linter.unusedVariables false
set_option linter.unusedSimpArgs false
/-- A word some further on. -/
def far (n : Nat) (t : PL.Tk) : PL.Tk := ⟨t.kind, t.text, t.place + n⟩
theorem two_loop (a : ByteArray) (ts us : List PL.Tk) (ha : a.size ≤ 4096) (h0 : 0 < ts.length) (hl : ts.length ≤ 5000) (hm : us.length ≤ 5000) (hp : ∀ t ∈ us, t.place ≤ 5000) :
    ∀ (d i : Nat), d + i = ts.length - 1 + us.length → Ev (fun k => lapidarylaw07_LexTwo.l0 k a (ts.map tk) (us.map tk) ((ts.dropLast ++ us.map (far (a.size + 1))).map tk) (i : Int)) true
  | 0, i, h => by
    refine Ev.step (fun k => ?_) known_then
    simp only [lapidarylaw07_LexTwo.l0]
    rw [if_neg (by simp only [List.length_map, List.length_append, List.length_dropLast]; omega)]
  | d + 1, i, h => by
    have hnext := two_loop a ts us ha h0 hl hm hp d (i + 1) (by omega)
    have hlen : (ts.dropLast ++ us.map (far (a.size + 1))).length = ts.length - 1 + us.length := by simp
    have hi : i < (ts.dropLast ++ us.map (far (a.size + 1))).length := by omega
    have hw0 := Aside0.mk (wrap_in (((ts.map tk).length : Int) - 1) (by rw [List.length_map]; omega) (by rw [List.length_map]; omega)).1
    have hw1 : ((ts.map tk).length : Int) - 1 = ((ts.length - 1 : Nat) : Int) := by rw [List.length_map]; omega
    refine Ev.step (fun k => ?_) hnext
    simp only [lapidarylaw07_LexTwo.l0]
    rw [hw0.out, hw1, if_pos (by rw [List.length_map]; omega), tk_at _ i hi]
    by_cases hc : i < ts.length - 1
    · have e : tk (ts.dropLast ++ us.map (far (a.size + 1)))[i] = tk (ts[i]'(by omega)) := by
        rw [List.getElem_append_left (by simpa using hc), List.getElem_dropLast]
      rw [if_pos (by omega), if_pos (by omega), if_pos (by rw [List.length_map]; omega), tk_at ts i (by omega), if_neg (by rw [same_tk e]; exact id), wrap_succ i (by omega)]
    · obtain ⟨j, hj⟩ : ∃ j, i = ts.length - 1 + j := ⟨i - (ts.length - 1), by omega⟩
      have hju : j < us.length := by omega
      have hw2 := Aside0.mk ((wrap_in ((i : Int) - ((ts.length - 1 : Nat) : Int)) (by omega) (by omega)).1.trans (show (i : Int) - ((ts.length - 1 : Nat) : Int) = (j : Int) from by omega))
      have hpl := hp _ (List.getElem_mem hju)
      have hf2 : (tk us[j]).f2 = ((us[j].place : Nat) : Int) := rfl
      have hw3 := Aside0.mk (wrap_in (((us[j].place : Nat) : Int) + (a.size : Int)) (by omega) (by omega)).1
      have hw4 := Aside0.mk (wrap_in (((us[j].place : Nat) : Int) + (a.size : Int) + 1) (by omega) (by omega)).1
      have e : (ts.dropLast ++ us.map (far (a.size + 1)))[i] = far (a.size + 1) us[j] := by
        rw [List.getElem_append_right (by rw [List.length_dropLast]; omega), List.getElem_map]
        congr 2
        rw [List.length_dropLast]
        omega
      rw [e, if_neg (by omega), hw2.out, if_pos (by omega), if_pos (by rw [List.length_map]; omega), if_pos (by omega), tk_at us j hju, hf2, hw3.out, hw4.out, if_neg, wrap_succ i (by omega)]
      have e2 : (tk (far (a.size + 1) us[j])).f2 = ((us[j].place : Nat) : Int) + (a.size : Int) + 1 := by
        show (((us[j].place + (a.size + 1) : Nat)) : Int) = _
        omega
      rw [e2]
      have e3 : (tk (far (a.size + 1) us[j])).f1 = (tk us[j]).f1 := rfl
      have e4 : (tk (far (a.size + 1) us[j])).f0 = (tk us[j]).f0 := rfl
      rw [e3, e4]
      simp
theorem lexTwo_plain : lapidarylaw07_LexTwo.Pure := by
  intro a b ha0 hb0
  refine Ev.rounds ?_
  have known : ∀ (x5 x8 : List S28) (x9 x10 : Int), Ev (fun k => lapidarylaw07_LexTwo.j0 k a b x5 x8 x9 x10 true) true := by
    intro x5 x8 x9 x10
    refine Ev.step (fun k => ?_) known_then
    simp only [lapidarylaw07_LexTwo.j0]
    rw [if_pos trivial]
  have bad : ∀ p r, r ≠ 0 → readS okNum a = ([], p, r) → Ev (fun k => lapidarylaw07_LexTwo.f k a b) true := by
    intro p r hr e
    refine Ev.congr (fun k => ?_) (known [] (readS okNum b).1 (readS okNum b).2.1 (readS okNum b).2.2)
    unfold lapidarylaw07_LexTwo.f lex_Read.f
    rw [e, Option.bind_some, Option.bind_some]
    simp only
    rw [if_neg hr]
  rcases readS_cases okNum a with ⟨hsa, ts, h, e⟩ | ⟨hs, p, h, e⟩ | ⟨hs, e⟩
  · have hlen := rd_len h
    rw [slen] at hlen
    have hw := Aside0.mk (wrap_in ((4096 : Int) - (a.size : Int)) (by omega) (by omega)).1
    by_cases hbig : (b.size : Int) ≥ 4096 - (a.size : Int)
    · refine Ev.congr (fun k => ?_) (known (ts.map tk) (readS okNum b).1 (readS okNum b).2.1 (readS okNum b).2.2)
      unfold lapidarylaw07_LexTwo.f lex_Read.f
      rw [e, Option.bind_some, Option.bind_some]
      simp only
      rw [if_pos trivial, hw.out]
      congr 1
      exact decide_eq_true hbig
    · have hcd : (a ++ ⟨#[32]⟩ ++ b).data.toList = a.data.toList ++ 32 :: b.data.toList := by simp [ByteArray.data_append]
      have hcs : (a ++ ⟨#[32]⟩ ++ b).size = a.size + 1 + b.size := by simp [ByteArray.size_append]; rfl
      have has : (a ++ (⟨#[32]⟩ : ByteArray)).size = a.size + 1 := by simp [ByteArray.size_append]; rfl
      have htwo := h.two (b := b.data.toList)
      rw [← hcd, slen, show 0 + a.size + 1 = 0 + (a.size + 1) by omega, PL.read_shift] at htwo
      have hbs : b.size ≤ 4096 := by omega
      refine Ev.congr (f := fun k => lapidarylaw07_LexTwo.j0 k a b (ts.map tk) (readS okNum b).1 (readS okNum b).2.1 (readS okNum b).2.2 false) (fun k => ?_) ?_
      · unfold lapidarylaw07_LexTwo.f lex_Read.f
        rw [e, Option.bind_some, Option.bind_some]
        simp only
        rw [if_pos trivial, hw.out]
        congr 1
        exact decide_eq_false hbig
      rcases readS_cases okNum b with ⟨_, us, hu, eb⟩ | ⟨_, p, hp, eb⟩ | ⟨hs, eb⟩
      · have hul := rd_len hu
        rw [slen] at hul
        rw [hu.read] at htwo
        have ec : readS okNum (a ++ ⟨#[32]⟩ ++ b) = ((ts.dropLast ++ us.map (far (a.size + 1))).map tk, 0, 0) := readS_ok (by omega) htwo
        have hloop := two_loop a ts us hsa hlen.1 (by omega) (by omega) (fun t ht => by have := hu.place_le t ht; rw [slen] at this; omega) (ts.length - 1 + us.length) 0 (by omega)
        rw [eb]
        refine Ev.step (f := fun k => lapidarylaw07_LexTwo.j1 k a (ts.map tk) (us.map tk) ((ts.dropLast ++ us.map (far (a.size + 1))).map tk) false) (fun k => ?_) (Ev.step (fun k => ?_) hloop)
        · simp only [lapidarylaw07_LexTwo.j0]
          rw [if_neg (by simp), if_pos (by omega), if_pos (by rw [has]; omega)]
          unfold lex_Read.f
          rw [ec, Option.bind_some]
          simp only
          rw [if_pos trivial, if_pos trivial, if_neg (by rw [List.length_map]; omega)]
          congr 1
          have hw1 := Aside0.mk (wrap_in (((ts.map tk).length : Int) - 1) (by rw [List.length_map]; omega) (by rw [List.length_map]; omega)).1
          have hw2 := Aside0.mk (wrap_in (((ts.map tk).length : Int) - 1 + ((us.map tk).length : Int)) (by rw [List.length_map, List.length_map]; omega) (by rw [List.length_map, List.length_map]; omega)).1
          rw [hw1.out, hw2.out]
          simp only [List.length_map, List.length_append, List.length_dropLast, bne_eq_false_iff_eq]
          omega
        · simp only [lapidarylaw07_LexTwo.j1]
          rw [if_neg (by simp)]
          rfl
      · rw [hp] at htwo
        have hpl := error_le _ _ _ hp
        rw [slen] at hpl
        have ec : readS okNum (a ++ ⟨#[32]⟩ ++ b) = ([], ((p + (a.size + 1) : Nat) : Int), 20) := readS_err (by omega) htwo
        rw [eb]
        refine Ev.step (fun k => ?_) known_then
        simp only [lapidarylaw07_LexTwo.j0]
        rw [if_neg (by simp), if_pos (by omega), if_pos (by rw [has]; omega)]
        unfold lex_Read.f
        rw [ec, Option.bind_some]
        simp only
        have hw1 := Aside0.mk (wrap_in ((p : Int) + (a.size : Int)) (by omega) (by omega)).1
        have hw2 := Aside0.mk (wrap_in ((p : Int) + (a.size : Int) + 1) (by omega) (by omega)).1
        rw [if_neg (by decide), if_pos (by rfl), if_pos trivial, hw1.out, hw2.out, if_pos (by omega)]
      · omega
  · exact bad _ _ (by decide) e
  · exact bad _ _ (by decide) e
end Go.Proofs.YtfjbhccapgnkiaaDoor.P
namespace Go.Proofs.YtfjbhccapgnkiaaDoor.lexTwoW
open Go.ChangeShapes Go.WideShapes Go.ChangeAt Go.RowKit
open Go.ChangeMaps (open_string shut_string)
set_option linter.unusedVariables false
theorem own : ownKnob Tryd.prog.godebug = none := by kernel_rfl
set_option maxRecDepth 100000 in
theorem lifted (os : Os) (started : os.Started) (H : Type) (enc : TypeId × Value → H) :
    ReturnsInHanded {} Tryd.checked os 3 .any (fun w args => (Rows.lexTwoSpec.pre enc Tryd.prog Tryd.f3 Rows.lexTwoRow.domain false w args ∧ laidMetH Tryd.prog Rows.lexTwoRow.laid w) ∧ sizedMet enc Tryd.prog Tryd.f3 (OpenSpec.ofChange Rows.lexTwoSpec) false w args)
      (Rows.lexTwoSpec.post enc Tryd.prog Tryd.f3 false true false false) := by
  refine returnsInHanded_of_change_and (C := Tryd.checked) (X := fun w _ => laidMetH Tryd.prog Rows.lexTwoRow.laid w) (fun _ _ _ hh h => h.of_heap hh) own started (by kernel_rfl) Tryd.func3
    (ChangeSpec.witness_shaped (enc := enc) (C := Tryd.checked) (os := os) (X := fun w _ => laidMetH Tryd.prog Rows.lexTwoRow.laid w) false (World.laidAll Tryd.prog os Rows.lexTwoRow.laid) #[.string ByteArray.empty, .string ByteArray.empty] 8 (World.laidAll_os _ _ _)
      (World.shaped_of_ZipB (by kernel_rfl) (by kernel_rfl)) (by kernel_rfl) (by kernel_rfl) (by kernel_rfl)
      (by rw [MakeChecks.laidMetH_plain _ _ _ (by kernel_rfl)]; exact laidMet_laidAll _ (by kernel_rfl) (by kernel_rfl))) ?_
  intro W base args ds gs before hval0 hW hcnd hsz0 hL _
  have hsz : (DataW.weightsEach Tryd.prog (Tryd.f3.params.toList ++ Rows.lexTwoSpec.plain.varTypes Tryd.prog) (ds ++ gs)).all (· ≤ reachBytes) = true := hsz0
  have hval : ∀ (j : Nat) t v, Tryd.f3.params[j]? = some t → args[j]? = some v → Value.okWide Tryd.prog W .any base t v := hval0
  have hW' := hW
  obtain ⟨p, q, hA0, hV, rfl, hfz, hnd⟩ := hW
  have hA : DataW.TrodAll enc Tryd.prog W 0 (fun _ => true) true Tryd.f3.params.toList args.toList ds p := hA0
  rw [Tryd.params3] at hA hval hsz
  obtain ⟨v0, vs0, d0, ds0, p0, q0, hargs, rfl, rfl, h0, r0⟩ := trodAll_cons hA
  obtain ⟨v1, vs1, d1, ds1, p1, q1, rfl, rfl, rfl, h1, r1⟩ := trodAll_cons r0
  obtain ⟨rfl, rfl, rfl⟩ := trodAll_nil r1
  obtain rfl : args = #[v0, v1] := by cases args; simp_all
  obtain ⟨rfl, rfl⟩ := trodVars_none hV
  obtain ⟨a0, rfl, rfl, rfl, y0⟩ := open_string Tryd.underlying9 (hval 0 9 v0 rfl rfl) h0
  have w0 : a0.size ≤ 140737488351232 := by
    have z := sized_string hsz (j := 0) (t := 9) rfl rfl
    rw [Array.length_toList] at z
    exact z
  obtain ⟨a1, rfl, rfl, rfl, y1⟩ := open_string Tryd.underlying9 (hval 1 9 v1 rfl rfl) h1
  have w1 : a1.size ≤ 140737488351232 := by
    have z := sized_string hsz (j := 1) (t := 9) rfl rfl
    rw [Array.length_toList] at z
    exact z
  clear hA0 hval0 hsz0 hsz
  refine (P.lapidarylaw07_LexTwo.walk P.lexTwo_plain a0 a1 W w0 w1).mono fun e W' ⟨he, bel⟩ => ?_
  subst he
  exact ⟨_, rfl, _, _, _, [], _, [], hW', trodAll_mk1 (shut_bool Tryd.underlying4 _), (trodAll_cons_mk (shut_string Tryd.underlying9 y0) (trodAll_cons_mk (shut_string Tryd.underlying9 y1) trodAll_mk0)), rfl, bel.frame _, fun h => by cases h⟩
theorem over : Rows.LexTwoSaid :=
  OpenClaim.holds_of_wide 3 Tryd.f3 rfl rfl rfl rfl rfl rfl rfl ⟨rfl, rfl, rfl, rfl, rfl⟩ rfl rfl rfl rfl rfl (by kernel_rfl) Tryd.func3 (by kernel_rfl)
    (of_decide_eq_true (by kernel_rfl)) (by unfold Func.isWrapper; first | (rw [if_pos (by decide +kernel)]; kernel_rfl) | (rw [if_neg (by decide +kernel)]; exact ⟨rfl, rfl⟩))
    (fun os started H enc _ => lifted os started H enc)
theorem plain (f : FuncId) (fn : Func) (hf : Tryd.pinned.checked.prog.funcNamed "lapidary/lapidarylaw07.LexTwo" = some f) (hfn : Tryd.pinned.checked.prog.funcs[f]? = some fn) :
    false = Tryd.pinned.checked.prog.looks [] ∧ ∀ (j : Nat) t, fn.params[j]? = some t → Tryd.pinned.checked.prog.wantsStandIn t = false := by
  obtain rfl : f = 3 := Option.some.inj ((show Tryd.prog.funcNamed "lapidary/lapidarylaw07.LexTwo" = some 3 by kernel_rfl).symm.trans hf) |>.symm
  obtain rfl : fn = Tryd.f3 := (Option.some.inj (Tryd.func3.symm.trans hfn)).symm
  refine ⟨by kernel_rfl, fun j t ht => ?_⟩
  rw [Tryd.params3] at ht
  have hm : t ∈ [9,9] := by simpa using Array.mem_of_getElem? ht
  have hall : ([9,9].all fun u => !Tryd.prog.wantsStandIn u) = true := by kernel_rfl
  exact (show Tryd.prog.wantsStandIn t = false by simpa using List.all_eq_true.1 hall t hm)
end Go.Proofs.YtfjbhccapgnkiaaDoor.lexTwoW
namespace Go.Proofs.YtfjbhccapgnkiaaDoor
/-- The card. -/
theorem lexTwo_card : Rows.LexTwoCardSaid :=
  Claim7.holds_tied_plain_at .later [] _ _ _ _ lexTwoW.over (fun _ h => by cases h) (by kernel_rfl) (fun _ h => by cases h) lexTwo_row_tie rfl ⟨rfl, rfl⟩ (by kernel_rfl) rfl lexTwoW.plain (by kernel_rfl)
end Go.Proofs.YtfjbhccapgnkiaaDoor
