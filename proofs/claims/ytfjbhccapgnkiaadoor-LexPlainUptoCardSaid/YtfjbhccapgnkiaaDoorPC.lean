/-
Small facts that the laws of layer 7 share.
-/
import Derived.Test.YtfjbhccapgnkiaaDoorL13
namespace Go.Proofs.YtfjbhccapgnkiaaDoor.P
open Go.RowKit Go.Proofs.YtfjbhccapgnkiaaDoorW.PrintWords Go.Proofs.YtfjbhccapgnkiaaDoorW.PrintLast Go.Proofs.YtfjbhccapgnkiaaDoorW.PrintMore
set_option linter.unusedVariables false
set_option linter.unusedSimpArgs false
def cv (x : S28) : S44 := ⟨x.f0, x.f1, x.f2⟩
theorem rd28_at (xs : List S28) (i : Nat) (h : i < xs.length) : rd_T28 xs (i : Int) = xs[i] := by
  unfold rd_T28
  rw [Int.toNat_natCast]
  simp [List.getD, h]
theorem rd44_at (xs : List S44) (i : Nat) (h : i < xs.length) : rd_T44 xs (i : Int) = xs[i] := by
  unfold rd_T44
  rw [Int.toNat_natCast]
  simp [List.getD, h]
theorem wrap_succ (i : Nat) (h : i ≤ 4611686018427387903) : wrap64 ((i : Int) + 1) = ((i + 1 : Nat) : Int) := by
  have := (wrap_in ((i : Int) + 1) (by omega) (by omega)).1
  rw [this]
  simp
theorem taken_loop (l : List S28) (hl : l.length ≤ 4194304) : ∀ (d i : Nat), d + i = l.length → Ev (fun k => lapidarylaw07_taken.l0 k l ((l.take i).map cv) (i : Int)) (l.map cv)
  | 0, i, h => by
    refine Ev.step (f := fun _ => some (l.map cv)) (fun k => ?_) (Ev.now _)
    simp only [lapidarylaw07_taken.l0]
    rw [if_neg (by omega), List.take_of_length_le (by omega)]
  | d + 1, i, h => by
    refine Ev.step (fun k => ?_) (taken_loop l hl d (i + 1) (by omega))
    simp only [lapidarylaw07_taken.l0]
    have hi : i < l.length := by omega
    rw [if_pos (by omega), if_pos (by omega), if_pos (by rw [List.length_map, List.length_take]; omega), rd28_at l i hi, wrap_succ i (by omega)]
    congr 1
    rw [List.take_add_one, List.getElem?_eq_getElem hi, List.map_append]
    rfl
theorem taken_ev (l : List S28) (hl : l.length ≤ 4194304) : Ev (fun k => lapidarylaw07_taken.f k l) (l.map cv) := by
  refine Ev.congr (fun k => ?_) (taken_loop l hl l.length 0 (by omega))
  rfl
theorem same_loop (l : List S44) (hl : l.length ≤ 4194304) : ∀ (d i : Nat), d + i = l.length → Ev (fun k => lapidaryref07_Same.l0 k l l (i : Int)) true
  | 0, i, h => by
    refine Ev.step (f := fun _ => some true) (fun k => ?_) (Ev.now _)
    simp only [lapidaryref07_Same.l0]
    rw [if_neg (by omega)]
  | d + 1, i, h => by
    refine Ev.step (fun k => ?_) (same_loop l hl d (i + 1) (by omega))
    simp only [lapidaryref07_Same.l0]
    rw [if_pos (by omega), if_pos (by omega), if_pos (by omega), if_neg (by simp), wrap_succ i (by omega)]
theorem same_ev (l : List S44) (hl : l.length ≤ 4194304) : Ev (fun k => lapidaryref07_Same.f k l l) true := by
  refine Ev.congr (fun k => ?_) (same_loop l hl l.length 0 (by omega))
  unfold lapidaryref07_Same.f
  rw [if_pos rfl]
  rfl
section
variable {ok : List UInt8 → Bool}
theorem known_one (h3 : ok [51] = true) : PL.read ok [97, 32, 97, 116, 58, 32, 51, 32, 112, 117, 116, 58, 32, 35, 98, 58, 99] 0 = .ok [⟨1, [97], 0⟩, ⟨2, [97, 116, 58], 2⟩, ⟨4, [51], 6⟩, ⟨2, [112, 117, 116, 58], 8⟩, ⟨6, [98, 58, 99], 13⟩, ⟨0, [], 17⟩] := by
  refine PL.Rd.read ?_
  refine PL.Rd.word (x := (1, [97], 1)) (by decide) (by decide) rfl (PL.Rd.blank (by decide) ?_)
  refine PL.Rd.word (x := (2, [97, 116, 58], 3)) (by decide) (by decide) rfl (PL.Rd.blank (by decide) ?_)
  refine PL.Rd.word (x := (4, [51], 1)) (by decide) (by decide) ?_ (PL.Rd.blank (by decide) ?_)
  · rw [PL.wordL_cons, if_neg (by decide), if_pos (by decide)]
    exact if_pos h3
  refine PL.Rd.word (x := (2, [112, 117, 116, 58], 4)) (by decide) (by decide) rfl (PL.Rd.blank (by decide) ?_)
  exact PL.Rd.word (x := (6, [98, 58, 99], 4)) (by decide) (by decide) rfl (PL.Rd.nil _)
theorem known_two (h3 : ok [51] = true) : PL.read ok [51, 32, 36] 0 = .error 2 := by
  rw [PL.read_cons, if_neg (by decide), if_neg (by decide)]
  have e : PL.wordL ok [51, 32, 36] = some (4, [51], 1) := by
    rw [PL.wordL_cons, if_neg (by decide), if_pos (by decide)]
    exact if_pos h3
  rw [e]
  simp only
  rw [show ([51, 32, 36] : List UInt8).drop 1 = [32, 36] from rfl, PL.read_cons, if_pos (by decide), PL.read_cons, if_neg (by decide), if_neg (by decide)]
  rfl
end
theorem readS_ok {okN : ByteArray → Bool} {s : ByteArray} (hs : s.size ≤ 4096) {ts : List PL.Tk} (h : PL.read (okL okN) s.data.toList 0 = .ok ts) : readS okN s = (ts.map tk, 0, 0) := by
  unfold readS
  rw [if_pos hs, h]
theorem readS_err {okN : ByteArray → Bool} {s : ByteArray} (hs : s.size ≤ 4096) {p : Nat} (h : PL.read (okL okN) s.data.toList 0 = .error p) : readS okN s = ([], (p : Int), 20) := by
  unfold readS
  rw [if_pos hs, h]
theorem readS_cases (okN : ByteArray → Bool) (s : ByteArray) :
    (s.size ≤ 4096 ∧ ∃ ts, PL.Rd (okL okN) s.data.toList 0 ts ∧ readS okN s = (ts.map tk, 0, 0)) ∨
    (s.size ≤ 4096 ∧ ∃ p : Nat, PL.read (okL okN) s.data.toList 0 = .error p ∧ readS okN s = ([], (p : Int), 20)) ∨
    (4096 < s.size ∧ readS okN s = ([], 0, 3)) := by
  by_cases hs : s.size ≤ 4096
  · cases h : PL.read (okL okN) s.data.toList 0 with
    | ok ts => exact .inl ⟨hs, ts, PL.Rd.of_read h, readS_ok hs h⟩
    | error p => exact .inr (.inl ⟨hs, p, rfl, readS_err hs h⟩)
  · exact .inr (.inr ⟨by omega, by unfold readS; rw [if_neg hs]⟩)
theorem okL_three : okL okNum [51] = true := okNum_three
theorem known_ev : Ev (fun k => lapidarylaw07_known.f k) true := by
  have e1 : lex_Read.f ⟨#[97, 32, 97, 116, 58, 32, 51, 32, 112, 117, 116, 58, 32, 35, 98, 58, 99]⟩ = some ([⟨1, ⟨#[97]⟩, 0⟩, ⟨2, ⟨#[97, 116, 58]⟩, 2⟩, ⟨4, ⟨#[51]⟩, 6⟩, ⟨2, ⟨#[112, 117, 116, 58]⟩, 8⟩, ⟨6, ⟨#[98, 58, 99]⟩, 13⟩, ⟨0, ⟨#[]⟩, 17⟩], 0, 0) := by
    unfold lex_Read.f
    rw [readS_ok (by decide) (known_one okL_three)]
    rfl
  have e2 : lex_Read.f ⟨#[51, 32, 36]⟩ = some ([], 2, 20) := by
    unfold lex_Read.f
    rw [readS_err (by decide) (known_two okL_three)]
    rfl
  have e3 : lex_Quote.f ⟨#[105, 116, 39, 115]⟩ = some ⟨#[39, 105, 116, 39, 39, 115, 39]⟩ := rfl
  have ht := taken_ev [⟨1, ⟨#[97]⟩, 0⟩, ⟨2, ⟨#[97, 116, 58]⟩, 2⟩, ⟨4, ⟨#[51]⟩, 6⟩, ⟨2, ⟨#[112, 117, 116, 58]⟩, 8⟩, ⟨6, ⟨#[98, 58, 99]⟩, 13⟩, ⟨0, ⟨#[]⟩, 17⟩] (by decide)
  refine Ev.congr (fun k => ?_) (Ev.bind (f := fun k t162 => (lapidaryref07_Same.f k t162 [⟨1, ⟨#[97]⟩, 0⟩, ⟨2, ⟨#[97, 116, 58]⟩, 2⟩, ⟨4, ⟨#[51]⟩, 6⟩, ⟨2, ⟨#[112, 117, 116, 58]⟩, 8⟩, ⟨6, ⟨#[98, 58, 99]⟩, 13⟩, ⟨0, ⟨#[]⟩, 17⟩]).bind fun t165 => if t165 = true then some true else some false) ht ?_)
  · unfold lapidarylaw07_known.f
    rw [e1, e2, Option.bind_some, Option.bind_some]
    simp only
    congr 1
    funext t
    congr 1
    funext b
    split
    · rw [if_pos trivial, if_pos trivial, if_pos trivial, if_pos trivial, e3, Option.bind_some]
      congr 1
      rw [toList_dat]
      rfl
    · rfl
  · refine Ev.bind (f := fun _ t165 => if t165 = true then some true else some false) (same_ev _ (by decide)) ?_
    exact Ev.now _
end Go.Proofs.YtfjbhccapgnkiaaDoor.P
namespace Go.Proofs.YtfjbhccapgnkiaaDoor.P
open Go.RowKit Go.Proofs.YtfjbhccapgnkiaaDoorW.PrintWords Go.Proofs.YtfjbhccapgnkiaaDoorW.PrintLast Go.Proofs.YtfjbhccapgnkiaaDoorW.PrintMore
set_option linter.unusedVariables false
set_option linter.unusedSimpArgs false
theorem known_then : Ev (fun k => (lapidarylaw07_known.f k).bind fun t => some t) true := Ev.bind (f := fun _ t => some t) known_ev (Ev.now _)
theorem tk_at (ts : List PL.Tk) (i : Nat) (h : i < ts.length) : rd_T28 (ts.map tk) (i : Int) = tk ts[i] := by
  rw [rd28_at _ i (by simpa using h)]
  simp
theorem rd_len {ok : List UInt8 → Bool} {l : List UInt8} {o : Nat} {ts : List PL.Tk} (h : PL.Rd ok l o ts) : 0 < ts.length ∧ ts.length ≤ l.length + 1 := by
  induction h with
  | nil o => simp
  | blank h k ih => exact ⟨ih.1, by simp; omega⟩
  | note hb hc hk h ih => exact ⟨ih.1, by have := ih.2; simp at this ⊢; omega⟩
  | word hb hc hx h ih =>
    have := PL.wordL_le hx
    exact ⟨by simp, by have := ih.2; simp only [List.length_drop, List.length_cons] at *; omega⟩
theorem slen (s : ByteArray) : s.data.toList.length = s.size := by simp
theorem extract_eq (s : ByteArray) (i n : Nat) (t : List UInt8) (h : (s.data.toList.drop i).take n = t) : (s.extract i (i + n)).toList = t := by
  rw [toList_dat, Lib.extract_data, Nat.add_sub_cancel_left]
  exact h
theorem mk_toList (l : List UInt8) : (ByteArray.mk l.toArray).toList = l := by rw [toList_dat]
theorem mk_size (l : List UInt8) : (ByteArray.mk l.toArray).size = l.length := by simp [ByteArray.size]
theorem error_le {ok : List UInt8 → Bool} (l : List UInt8) (o p : Nat) (h : PL.read ok l o = .error p) : p ≤ o + l.length := by
  induction hn : l.length using Nat.strongRecOn generalizing l o with
  | ind n ih =>
    cases l with
    | nil => cases h
    | cons c r =>
      simp only [List.length_cons] at hn
      rw [PL.read_cons] at h
      split at h
      · have := ih r.length (by omega) r (o + 1) h rfl
        omega
      split at h
      · cases hk : r.idxOf? 34 with
        | none => rw [hk] at h; injection h with h; omega
        | some k =>
          rw [hk] at h
          have hlt := PL.idxOf_lt hk
          have := ih (r.drop (k + 1)).length (by simp; omega) _ _ h rfl
          simp only [List.length_drop] at this
          omega
      · cases hx : PL.wordL ok (c :: r) with
        | none => rw [hx] at h; injection h with h; omega
        | some x =>
          rw [hx] at h
          have h1 := PL.wordL_le hx
          have h2 := PL.map_err h
          have := ih ((c :: r).drop x.2.2).length (by simp; omega) _ _ h2 rfl
          have h3 := h1.2.1
          simp only [List.length_drop, List.length_cons] at this h3
          omega
theorem same_tk {a b : S28} (h : a = b) : ((!((a.f0) == (b.f0)) || (!(((a.f1).toList) == ((b.f1).toList)) || (!((a.f2) == (b.f2))))) = true) = False := by
  subst h
  simp
end Go.Proofs.YtfjbhccapgnkiaaDoor.P
