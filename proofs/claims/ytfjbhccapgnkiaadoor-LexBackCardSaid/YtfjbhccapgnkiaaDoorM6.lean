/-
Any source's words, written with a blank behind each, are read as the same ones: for every text.
-/
import Derived.Test.YtfjbhccapgnkiaaDoorT6
import Derived.Test.YtfjbhccapgnkiaaDoorPC
import Derived.Test.YtfjbhccapgnkiaaDoorCards
import Derived.Test.YtfjbhccapgnkiaaDoorTie
import Derived.WalkKit
import Derived.ProofKit
import Derived.OpenShut
import Derived.ShutString
import Derived.ChangeOld
import Derived.Below
import Derived.SizedLaws
import Derived.LaidMore
import Derived.Lay
import Derived.SevenTiedAt
import Derived.Stop.Joined
namespace Go.Proofs.YtfjbhccapgnkiaaDoor.P
open Go.RowKit Go.Proofs.YtfjbhccapgnkiaaDoorW.PrintWords Go.Proofs.YtfjbhccapgnkiaaDoorW.PrintLast Go.Proofs.YtfjbhccapgnkiaaDoorW.PrintMore
set_option linter.unusedVariables false
set_option linter.unusedSimpArgs false
def nums (l : List UInt8) : List Int := l.map fun b => (b.toNat : Int)
theorem nums_str (l : List UInt8) : strOfNums (nums l) = ⟨l.toArray⟩ := by
  unfold strOfNums nums
  congr 1
  simp [List.map_map, Function.comp_def]
theorem wr_append (a b : List PL.Tk) : PL.wr (a ++ b) = PL.wr a ++ PL.wr b := by
  induction a with
  | nil => rfl
  | cons t a ih => simp [PL.wr, ih]
theorem quotedL_tle {l : List UInt8} {x : List UInt8 × Nat} (h : PL.quotedL l = some x) : x.1.length ≤ x.2 := by
  unfold PL.quotedL at h
  split at h
  · rw [Option.bind_eq_some_iff] at h
    obtain ⟨y, hy, h⟩ := h
    split at h
    · injection h with h
      subst h
      have := PL.quoLL_le hy
      show y.1.length ≤ y.2 + 1
      omega
    · cases h
  · cases h
theorem symbolL_tle {l : List UInt8} {x : List UInt8 × Nat} (h : PL.symbolL l = some x) : x.1.length ≤ x.2 := by
  unfold PL.symbolL at h
  split at h
  · split at h
    · injection h with h; subst h; exact List.length_take_le _ _
    · cases h
  · split at h
    · injection h with h; subst h; exact List.length_take_le _ _
    · exact quotedL_tle h
theorem wordL_tle {ok : List UInt8 → Bool} {l : List UInt8} {x : Nat × List UInt8 × Nat} (h : PL.wordL ok l = some x) : x.2.1.length ≤ x.2.2 := by
  have hl := PL.wordL_le h
  by_cases h5 : x.1 = 5
  · cases l with
    | nil => cases h
    | cons c l =>
      rw [PL.wordL_cons] at h
      split at h
      · split at h <;> (injection h with h; subst h; cases h5)
      split at h
      · split at h
        · injection h with h; subst h; cases h5
        · cases h
      split at h
      · simp only [Option.map_eq_some_iff] at h
        obtain ⟨y, hy, rfl⟩ := h
        exact quotedL_tle hy
      split at h
      · split at h
        · injection h with h; subst h; cases h5
        · simp only [Option.map_eq_some_iff] at h
          obtain ⟨y, hy, rfl⟩ := h
          cases h5
      split at h
      · split at h <;> (injection h with h; subst h; cases h5)
      split at h
      · injection h with h; subst h; cases h5
      split at h
      · injection h with h; subst h; simp at h5; omega
      · cases h
  by_cases h6 : x.1 = 6
  · cases l with
    | nil => cases h
    | cons c l =>
      rw [PL.wordL_cons] at h
      split at h
      · split at h <;> (injection h with h; subst h; cases h6)
      split at h
      · split at h
        · injection h with h; subst h; cases h6
        · cases h
      split at h
      · simp only [Option.map_eq_some_iff] at h
        obtain ⟨y, hy, rfl⟩ := h
        cases h6
      split at h
      · split at h
        · injection h with h; subst h; cases h6
        · simp only [Option.map_eq_some_iff] at h
          obtain ⟨y, hy, rfl⟩ := h
          have := symbolL_tle hy
          show y.1.length ≤ y.2 + 1
          omega
      split at h
      · split at h <;> (injection h with h; subst h; cases h6)
      split at h
      · injection h with h; subst h; cases h6
      split at h
      · injection h with h; subst h; simp at h6; omega
      · cases h
  · rw [hl.2.2.1 h5 h6]
    exact List.length_take_le _ _
theorem rd_text {ok : List UInt8 → Bool} {l : List UInt8} {o : Nat} {ts : List PL.Tk} (h : PL.Rd ok l o ts) : ∀ t ∈ ts, t.text.length ≤ l.length := by
  induction h with
  | nil o => simp
  | blank h k ih => intro t ht; have := ih t ht; simp; omega
  | note hb hc hk h ih => intro t ht; have := ih t ht; simp at this ⊢; omega
  | word hb hc hx h ih =>
    intro t ht
    have h1 := PL.wordL_le hx
    have h2 := wordL_tle hx
    rcases List.mem_cons.1 ht with rfl | ht
    · show _ ≤ _; exact Nat.le_trans h2 h1.2.1
    · have := ih t ht; rw [List.length_drop] at this; omega
theorem written_f (t : PL.Tk) (ht : t.text.length ≤ 4096) : lapidarylaw07_written.f (tk t).f0 (tk t).f1 (tk t).f2 = some ⟨(PL.written t.kind t.text).toArray⟩ ∧ (PL.written t.kind t.text).length ≤ 10000 := by
  have hsz : (tk t).f1.size = t.text.length := mk_size _
  have hql : (PL.quoteL t.text).length ≤ 8200 := by
    unfold PL.quoteL
    have h1 := esc_len t.text
    have h2 := List.count_le_length (a := (39 : UInt8)) (l := t.text)
    simp only [List.length_cons, List.length_append, List.length_nil]
    omega
  have hq : lex_Quote.f (tk t).f1 = some ⟨(PL.quoteL t.text).toArray⟩ := by
    unfold lex_Quote.f
    rw [if_pos (by rw [hsz]; omega)]
    rfl
  have hp : lex_PlainSymbol.f (tk t).f1 = some (PL.plainSym t.text) := by
    unfold lex_PlainSymbol.f
    rw [if_pos (by rw [hsz]; omega)]
    rfl
  unfold lapidarylaw07_written.f PL.written
  by_cases h5 : t.kind = 5
  · rw [if_pos (by show ((t.kind : Nat) : Int) = 5; omega), if_pos h5, hq]
    exact ⟨rfl, by omega⟩
  rw [if_neg (by show ¬ ((t.kind : Nat) : Int) = 5; omega), if_neg h5]
  by_cases h6 : t.kind = 6
  · rw [if_pos (by show ((t.kind : Nat) : Int) = 6; omega), if_pos h6, hp, Option.bind_some]
    cases hs : PL.plainSym t.text
    · simp only [Bool.false_eq_true, if_false]
      rw [hq, Option.bind_some, mk_size, if_pos (by omega)]
      refine ⟨?_, by rw [List.length_cons]; omega⟩
      congr 1
    · simp only [if_true]
      rw [hsz, if_pos (by omega)]
      refine ⟨?_, by rw [List.length_cons]; omega⟩
      congr 1
  · rw [if_neg (by show ¬ ((t.kind : Nat) : Int) = 6; omega), if_neg h6]
    exact ⟨rfl, by omega⟩
section
variable {ts us : List PL.Tk} (hl : ts.length ≤ 5000) (heq : us.map (fun t => (t.kind, t.text)) = ts.map (fun t => (t.kind, t.text)))
include hl heq
theorem back_loop1 : ∀ (d i : Nat), d + i = ts.length → Ev (fun k => lapidarylaw07_LexBack.l1 k (ts.map tk) (us.map tk) (i : Int)) true
  | 0, i, h => by
    refine Ev.step (fun k => ?_) known_then
    simp only [lapidarylaw07_LexBack.l1]
    rw [if_neg (by rw [List.length_map]; omega)]
  | d + 1, i, h => by
    have hul : us.length = ts.length := by simpa using congrArg List.length heq
    have hi : i < ts.length := by omega
    have hiu : i < us.length := by omega
    have e : (us[i].kind, us[i].text) = (ts[i].kind, ts[i].text) := by
      have h1 : (us.map (fun t => (t.kind, t.text)))[i]? = (ts.map (fun t => (t.kind, t.text)))[i]? := by rw [heq]
      simpa [hi, hiu] using h1
    injection e with e1 e2
    refine Ev.step (fun k => ?_) (back_loop1 d (i + 1) (by omega))
    simp only [lapidarylaw07_LexBack.l1]
    rw [if_pos (by rw [List.length_map]; omega), if_pos (by omega), if_pos (by rw [List.length_map]; omega), tk_at ts i hi, tk_at us i hiu, if_pos (by show ((ts[i].kind : Nat) : Int) = ((us[i].kind : Nat) : Int); rw [e1]), if_pos (by show (ByteArray.mk ts[i].text.toArray).toList = (ByteArray.mk us[i].text.toArray).toList; rw [e2]), wrap_succ i (by omega)]
end
section
variable {s : ByteArray} {ts : List PL.Tk} (hs : s.size ≤ 4096) (h : PL.Rd (okL okNum) s.data.toList 0 ts)
include hs h
theorem back_end (x6 : List Int) (hx : x6.length ≤ 4096 → x6 = nums (PL.wr ts)) : Ev (fun k => lapidarylaw07_LexBack.j1 k (ts.map tk) x6) true := by
  have hlen := rd_len h
  rw [slen] at hlen
  by_cases hb : (x6.length : Int) > 4096
  · refine Ev.step (fun k => ?_) known_then
    simp only [lapidarylaw07_LexBack.j1]
    rw [if_pos hb]
  · have e := hx (by omega)
    obtain ⟨us, hu, heq⟩ := h.back 0
    have hul : us.length = ts.length := by simpa using congrArg List.length heq
    have hsz : (ByteArray.mk (PL.wr ts).toArray).size ≤ 4096 := by
      rw [mk_size]
      have h1 : x6.length = (PL.wr ts).length := by rw [e]; simp [nums]
      omega
    have hr : readS okNum ⟨(PL.wr ts).toArray⟩ = (us.map tk, 0, 0) := readS_ok hsz hu.read
    refine Ev.step (f := fun k => lapidarylaw07_LexBack.j2 k (ts.map tk) (us.map tk) false) (fun k => ?_) (Ev.step (fun k => ?_) (back_loop1 (by omega) heq ts.length 0 (by omega)))
    · simp only [lapidarylaw07_LexBack.j1]
      rw [if_neg hb, e, nums_str]
      unfold lex_Read.f
      rw [hr, Option.bind_some]
      simp only
      rw [if_pos trivial]
      congr 1
      simp [hul]
    · simp only [lapidarylaw07_LexBack.j2]
      rw [if_neg (by simp)]
      rfl
theorem back_loop0 : ∀ (d i : Nat), d + i = ts.length → Ev (fun k => lapidarylaw07_LexBack.l0 k (ts.map tk) (nums (PL.wr (ts.take i))) (i : Int)) true
  | 0, i, hd => by
    refine Ev.step (fun k => ?_) (back_end hs h (nums (PL.wr (ts.take i))) (fun _ => by rw [List.take_of_length_le (by omega)]))
    simp only [lapidarylaw07_LexBack.l0]
    rw [if_neg (by rw [List.length_map]; omega)]
  | d + 1, i, hd => by
    have hi : i < ts.length := by omega
    have hlen := rd_len h
    rw [slen] at hlen
    by_cases hb : ((nums (PL.wr (ts.take i))).length : Int) ≤ 4096
    · have ht := rd_text h _ (List.getElem_mem hi)
      rw [slen] at ht
      obtain ⟨w1, w2⟩ := written_f ts[i] (by omega)
      have hw : (ByteArray.mk (PL.written ts[i].kind ts[i].text).toArray).size = (PL.written ts[i].kind ts[i].text).length := mk_size _
      have e : nums (PL.wr (ts.take i)) ++ bytesOf ⟨(PL.written ts[i].kind ts[i].text).toArray⟩ ++ [32] = nums (PL.wr (ts.take (i + 1))) := by
        rw [List.take_add_one, List.getElem?_eq_getElem hi, wr_append]
        simp [PL.wr, nums, bytesOf]
      refine Ev.step (fun k => ?_) (back_loop0 d (i + 1) (by omega))
      simp only [lapidarylaw07_LexBack.l0]
      rw [if_pos (by rw [List.length_map]; omega), if_pos hb, if_pos (by omega), tk_at ts i hi, w1, Option.bind_some, hw, if_pos (by omega), Option.bind_some, if_pos (by rw [List.length_append, bytesOf_length, hw]; omega), e, wrap_succ i (by omega)]
    · refine Ev.step (fun k => ?_) (back_end hs h (nums (PL.wr (ts.take i))) (fun hle => absurd hle (by omega)))
      simp only [lapidarylaw07_LexBack.l0]
      rw [if_pos (by rw [List.length_map]; omega), if_neg hb]
end
theorem lexBack_plain : lapidarylaw07_LexBack.Pure := by
  intro s hs0
  refine Ev.rounds ?_
  rcases readS_cases okNum s with ⟨hs, ts, h, e⟩ | ⟨hs, p, h, e⟩ | ⟨hs, e⟩
  · refine Ev.congr (fun k => ?_) (back_loop0 hs h ts.length 0 (by omega))
    unfold lapidarylaw07_LexBack.f lex_Read.f
    rw [e, Option.bind_some]
    rfl
  · refine Ev.congr (fun k => ?_) known_then
    unfold lapidarylaw07_LexBack.f lex_Read.f
    rw [e, Option.bind_some]
    rfl
  · refine Ev.congr (fun k => ?_) known_then
    unfold lapidarylaw07_LexBack.f lex_Read.f
    rw [e, Option.bind_some]
    rfl
end Go.Proofs.YtfjbhccapgnkiaaDoor.P
namespace Go.Proofs.YtfjbhccapgnkiaaDoor.lexBackW
open Go.ChangeShapes Go.WideShapes Go.ChangeAt Go.RowKit
open Go.ChangeMaps (open_string shut_string)
set_option linter.unusedVariables false
theorem own : ownKnob Tryd.prog.godebug = none := by kernel_rfl
set_option maxRecDepth 100000 in
theorem lifted (os : Os) (started : os.Started) (H : Type) (enc : TypeId × Value → H) :
    ReturnsInHanded {} Tryd.checked os 6 .any (fun w args => (Rows.lexBackSpec.pre enc Tryd.prog Tryd.f6 Rows.lexBackRow.domain false w args ∧ laidMetH Tryd.prog Rows.lexBackRow.laid w) ∧ sizedMet enc Tryd.prog Tryd.f6 (OpenSpec.ofChange Rows.lexBackSpec) false w args)
      (Rows.lexBackSpec.post enc Tryd.prog Tryd.f6 false true false false) := by
  refine returnsInHanded_of_change_and (C := Tryd.checked) (X := fun w _ => laidMetH Tryd.prog Rows.lexBackRow.laid w) (fun _ _ _ hh h => h.of_heap hh) own started (by kernel_rfl) Tryd.func6
    (ChangeSpec.witness_shaped (enc := enc) (C := Tryd.checked) (os := os) (X := fun w _ => laidMetH Tryd.prog Rows.lexBackRow.laid w) false (World.laidAll Tryd.prog os Rows.lexBackRow.laid) #[.string ByteArray.empty] 8 (World.laidAll_os _ _ _)
      (World.shaped_of_ZipB (by kernel_rfl) (by kernel_rfl)) (by kernel_rfl) (by kernel_rfl) (by kernel_rfl)
      (by rw [MakeChecks.laidMetH_plain _ _ _ (by kernel_rfl)]; exact laidMet_laidAll _ (by kernel_rfl) (by kernel_rfl))) ?_
  intro W base args ds gs before hval0 hW hcnd hsz0 hL _
  have hsz : (DataW.weightsEach Tryd.prog (Tryd.f6.params.toList ++ Rows.lexBackSpec.plain.varTypes Tryd.prog) (ds ++ gs)).all (· ≤ reachBytes) = true := hsz0
  have hval : ∀ (j : Nat) t v, Tryd.f6.params[j]? = some t → args[j]? = some v → Value.okWide Tryd.prog W .any base t v := hval0
  have hW' := hW
  obtain ⟨p, q, hA0, hV, rfl, hfz, hnd⟩ := hW
  have hA : DataW.TrodAll enc Tryd.prog W 0 (fun _ => true) true Tryd.f6.params.toList args.toList ds p := hA0
  rw [Tryd.params6] at hA hval hsz
  obtain ⟨v0, vs0, d0, ds0, p0, q0, hargs, rfl, rfl, h0, r0⟩ := trodAll_cons hA
  obtain ⟨rfl, rfl, rfl⟩ := trodAll_nil r0
  obtain rfl : args = #[v0] := by cases args; simp_all
  obtain ⟨rfl, rfl⟩ := trodVars_none hV
  obtain ⟨a0, rfl, rfl, rfl, y0⟩ := open_string Tryd.underlying9 (hval 0 9 v0 rfl rfl) h0
  have w0 : a0.size ≤ 140737488351232 := by
    have z := sized_string hsz (j := 0) (t := 9) rfl rfl
    rw [Array.length_toList] at z
    exact z
  clear hA0 hval0 hsz0 hsz
  refine (P.lapidarylaw07_LexBack.walk P.lexBack_plain a0 W w0).mono fun e W' ⟨he, bel⟩ => ?_
  subst he
  exact ⟨_, rfl, _, _, _, [], _, [], hW', trodAll_mk1 (shut_bool Tryd.underlying4 _), (trodAll_cons_mk (shut_string Tryd.underlying9 y0) trodAll_mk0), rfl, bel.frame _, fun h => by cases h⟩
theorem over : Rows.LexBackSaid :=
  OpenClaim.holds_of_wide 6 Tryd.f6 rfl rfl rfl rfl rfl rfl rfl ⟨rfl, rfl, rfl, rfl, rfl⟩ rfl rfl rfl rfl rfl (by kernel_rfl) Tryd.func6 (by kernel_rfl)
    (of_decide_eq_true (by kernel_rfl)) (by unfold Func.isWrapper; first | (rw [if_pos (by decide +kernel)]; kernel_rfl) | (rw [if_neg (by decide +kernel)]; exact ⟨rfl, rfl⟩))
    (fun os started H enc _ => lifted os started H enc)
theorem plain (f : FuncId) (fn : Func) (hf : Tryd.pinned.checked.prog.funcNamed "lapidary/lapidarylaw07.LexBack" = some f) (hfn : Tryd.pinned.checked.prog.funcs[f]? = some fn) :
    false = Tryd.pinned.checked.prog.looks [] ∧ ∀ (j : Nat) t, fn.params[j]? = some t → Tryd.pinned.checked.prog.wantsStandIn t = false := by
  obtain rfl : f = 6 := Option.some.inj ((show Tryd.prog.funcNamed "lapidary/lapidarylaw07.LexBack" = some 6 by kernel_rfl).symm.trans hf) |>.symm
  obtain rfl : fn = Tryd.f6 := (Option.some.inj (Tryd.func6.symm.trans hfn)).symm
  refine ⟨by kernel_rfl, fun j t ht => ?_⟩
  rw [Tryd.params6] at ht
  have hm : t ∈ [9] := by simpa using Array.mem_of_getElem? ht
  have hall : ([9].all fun u => !Tryd.prog.wantsStandIn u) = true := by kernel_rfl
  exact (show Tryd.prog.wantsStandIn t = false by simpa using List.all_eq_true.1 hall t hm)
end Go.Proofs.YtfjbhccapgnkiaaDoor.lexBackW
namespace Go.Proofs.YtfjbhccapgnkiaaDoor
/-- The card. -/
theorem lexBack_card : Rows.LexBackCardSaid :=
  Claim7.holds_tied_plain_at .later [] _ _ _ _ lexBackW.over (fun _ h => by cases h) (by kernel_rfl) (fun _ h => by cases h) lexBack_row_tie rfl ⟨rfl, rfl⟩ (by kernel_rfl) rfl lexBackW.plain (by kernel_rfl)
end Go.Proofs.YtfjbhccapgnkiaaDoor
