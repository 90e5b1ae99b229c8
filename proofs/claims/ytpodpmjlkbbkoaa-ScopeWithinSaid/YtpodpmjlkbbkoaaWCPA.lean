import Derived.Test.YtpodpmjlkbbkoaaWCPS
import Derived.Test.YtpodpmjlkbbkoaaWCTY
import Derived.Test.YtpodpmjlkbbkoaaWCRN
import Derived.Test.YtpodpmjlkbbkoaaWCSX
set_option linter.all false
namespace Go.Proofs.Ytpodpmjlkbbkoaa.P
open Go.RowKit Go.Proofs.YtpodpmjlkbbkoaaW.PrintWords Go.Proofs.YtpodpmjlkbbkoaaW.PrintLast Go.Proofs.YtpodpmjlkbbkoaaW.PrintMore
section
variable {ok : List UInt8 → Bool} {l : List UInt8} {o : Nat} {ts : List PL.Tk}
theorem rd_wf {P : ByteArray → Int → Prop} (h : PL.Rd ok l o ts) (hP : ∀ t ∈ ts, t.kind = 1 → P ⟨t.text.toArray⟩ (t.place : Int)) : SP.WF P (ts.map tk) := by
 induction h with
 | nil o => exact ⟨fun h => absurd h (show ¬ ((0 : Nat) : Int) = 1 from by decide), Or.inl rfl⟩
 | blank h k ih => exact ih hP
 | note hb hc hk h ih => exact ih hP
 | word hb hc hx h ih =>
  refine ⟨fun h1 => hP _ List.mem_cons_self (by simp only [tk] at h1 ⊢; omega), Or.inr (ih fun t ht => hP t (List.mem_cons_of_mem _ ht))⟩
theorem rd_count (h : PL.Rd ok l o ts) : ts.length ≤ l.length + 1 := by
 induction h with
 | nil o => simp
 | blank h k ih => simp only [List.length_cons]; omega
 | note hb hc hk h ih => have := PL.idxOf_lt hk; simp only [List.length_cons, List.length_drop] at *; omega
 | word hb hc hx h ih => have := PL.wordL_le hx; simp only [List.length_cons, List.length_drop] at *; omega
theorem wordL_len {x : Nat × List UInt8 × Nat} (h : PL.wordL ok l = some x) : x.2.1.length ≤ 1024 ∨ x.2.1.length ≤ l.length := by
 cases l with
 | nil => simp [PL.wordL] at h
 | cons c l =>
  have h1 := PL.wordL_le h
  by_cases h56 : x.1 ≠ 5 ∧ x.1 ≠ 6
  ·rw [h1.2.2.1 h56.1 h56.2]
   simp only [List.length_take]
   omega
  ·rw [PL.wordL_cons] at h
   split at h
   ·split at h <;> (injection h with h; subst h; simp only [List.length_take]; omega)
   split at h
   ·split at h
    ·injection h with h; subst h; simp only [List.length_take]; omega
    ·cases h
   split at h
   ·simp only [Option.map_eq_some_iff] at h
    obtain ⟨y, hy, rfl⟩ := h
    have := PL.quotedL_len hy
    simp only
    omega
   split at h
   ·split at h
    ·injection h with h; subst h; simp only [List.length_take]; omega
    ·simp only [Option.map_eq_some_iff] at h
     obtain ⟨y, hy, rfl⟩ := h
     have := PL.symbolL_len hy
     simp only
     omega
   split at h
   ·split at h <;> (injection h with h; subst h; simp only [List.length_take]; omega)
   split at h
   ·injection h with h; subst h; simp only [List.length_take]; omega
   split at h
   ·injection h with h; subst h; simp only [List.length_take]; omega
   ·cases h
theorem rd_text (h : PL.Rd ok l o ts) : ∀ t ∈ ts, t.text.length ≤ 1024 ∨ t.text.length ≤ l.length := by
 induction h with
 | nil o => simp
 | blank h k ih => intro t ht; have := ih t ht; simp only [List.length_cons]; omega
 | note hb hc hk h ih => intro t ht; have := ih t ht; simp only [List.length_cons, List.length_drop] at *; omega
 | @word c r o x ts hb hc hx h ih =>
  intro t ht
  rcases List.mem_cons.1 ht with rfl | ht
  ·exact wordL_len hx
  ·have := ih t ht
   simp only [List.length_drop] at this
   omega
end
open SP in
noncomputable def parseS (s : ByteArray) : SP.Nd × Int × Int := if (readS okNum s).2.2 = 0 then unitR ((SP.unit (16 * (readS okNum s).1.length + 12) false (readS okNum s).1).getD (.error (0, 0))) else (zNd, (readS okNum s).2.1, (readS okNum s).2.2)
theorem lex_calls (s : ByteArray) (w : World) : Calls Try.prog 18 #[.string s] w fun e w' => ∃ v0_ : Value, e = .returned (.tuple #[v0_, .int .i64 (readS okNum s).2.1, .int .i64 (readS okNum s).2.2]) ∧ Kd.R k28 64 w' w.heap.size (fun _ => True) v0_ (readS okNum s).1 ∧ Below w.heap.size w w' := by
 by_cases hs : s.size ≤ 4096
 ·exact lex_Read.small reads_number s hs w
 ·exact lex_Read.big s hs w
theorem readS_ok {s : ByteArray} (h : (readS okNum s).2.2 = 0) : s.size ≤ 4096 ∧ ∃ ts, PL.Rd (okL okNum) s.data.toList 0 ts ∧ readS okNum s = (ts.map tk, 0, 0) := by
 unfold readS at h ⊢
 by_cases hs : s.size ≤ 4096
 ·rw [if_pos hs] at h ⊢
  cases hr : PL.read (okL okNum) s.data.toList 0 with
  | error p => rw [hr] at h; cases h
  | ok ts => exact ⟨hs, ts, PL.Rd.of_read hr, rfl⟩
 ·rw [if_neg hs] at h
  cases h
theorem size_list (s : ByteArray) : s.data.toList.length = s.size := by rw [Array.length_toList]; rfl
def InS (s : ByteArray) (t : ByteArray) (p : Int) : Prop := ∃ n : Nat, p = (n : Int) ∧ n + t.size ≤ s.size ∧ (s.data.toList.drop n).take t.size = t.data.toList
theorem rd_names {s : ByteArray} {ts : List PL.Tk} (h : PL.Rd (okL okNum) s.data.toList 0 ts) : SP.WF (InS s) (ts.map tk) := by
 refine rd_wf h fun t ht h1 => ?_
 obtain ⟨h2, h3, h4⟩ := h.places.2.2.1 t ht (by omega) (by omega) (by omega)
 have h5 := h.place_le t ht
 rw [size_list] at h3 h5
 refine ⟨t.place, rfl, ?_, ?_⟩
 ·show t.place + t.text.toArray.size ≤ s.size
  simp only [List.size_toArray]
  omega
 ·show (s.data.toList.drop t.place).take t.text.toArray.size = t.text.toArray.toList
  simpa using h4
theorem ba_size (l : List UInt8) : (⟨l.toArray⟩ : ByteArray).size = l.length := by simp [ByteArray.size]
theorem tree_parse.all (s : ByteArray) (w : World) : Calls Try.prog 10 #[.string s] w (NodeA (parseS s).1 (parseS s).2.1 (parseS s).2.2 w) := by
 refine tree_parse.calls w fun w => ?_
 unfold parseS
 by_cases h0 : (readS okNum s).2.2 = 0
 ·rw [if_pos h0]
  obtain ⟨hs, ts, hrd, he⟩ := readS_ok h0
  have hl := lex_calls s
  rw [he] at hl ⊢
  simp only at hl ⊢
  have hc := rd_count hrd
  have ht := rd_text hrd
  rw [size_list] at hc ht
  have hlen : (ts.map tk).length ≤ 4097 := by rw [List.length_map]; omega
  obtain ⟨r, hr, hr0, hr1⟩ := SP.unit_tot (rd_names hrd)
  rw [hr]
  refine (tree_unit.calls0 (k := 16 * (ts.map tk).length + 12) (r1 := .ok ((SP.E, []), ts.map tk)) w hl rfl ?_ (by omega) Try.func14 (by kernel_rfl) rfl (parse1_head _ _ rfl) (fun L => (allC (16 * (ts.map tk).length + 12) (by omega) _ (Nat.le_refl _)).body) ?_ hr).mono fun e w' hA => hA.node
  ·intro t hm
   obtain ⟨t', ht', rfl⟩ := List.mem_map.1 hm
   have := ht t' ht'
   simp only [tk, ba_size]
   omega
  ·intro ta l2 e
   have e := Except.ok.inj e
   simp only [Prod.mk.injEq] at e
   obtain ⟨rfl, rfl⟩ := e
   simp only [List.length_nil]
   omega
 ·rw [if_neg h0]
  exact tree_unit.nowords w _ (lex_calls s) (bne_t h0)
theorem parseS_ok {s : ByteArray} (h : (parseS s).2.2 = 0) : ∃ ts l2, s.size ≤ 4096 ∧ PL.Rd (okL okNum) s.data.toList 0 ts ∧ SP.unit (16 * (ts.map tk).length + 12) false (ts.map tk) = some (.ok ((parseS s).1, l2)) ∧ SP.Nice (InS s) (parseS s).1 ∧ SP.cnt (parseS s).1 ≤ 4098 := by
 unfold parseS at h ⊢
 by_cases h0 : (readS okNum s).2.2 = 0
 ·rw [if_pos h0] at h ⊢
  obtain ⟨hs, ts, hrd, he⟩ := readS_ok h0
  rw [he] at h ⊢
  simp only at h ⊢
  have hc := rd_count hrd
  rw [size_list] at hc
  obtain ⟨r, hr, hr0, hr1⟩ := SP.unit_tot (rd_names hrd)
  rw [hr] at h ⊢
  cases r with
  | error e => exact absurd h (hr0 e rfl)
  | ok y =>
   obtain ⟨h1, h2, h3⟩ := hr1 y.1 y.2 rfl
   refine ⟨ts, y.2, hs, hrd, hr, h2, ?_⟩
   rw [List.length_map] at h3
   show SP.cnt y.1 ≤ 4098
   omega
 ·rw [if_neg h0] at h
  exact absurd h h0
theorem parseS_cnt (s : ByteArray) : SP.cnt (parseS s).1 ≤ 4098 := by
 by_cases h : (parseS s).2.2 = 0
 ·obtain ⟨ts, l2, -, -, -, -, h⟩ := parseS_ok h
  exact h
 ·have hz : SP.cnt zNd ≤ 4098 := by simp [zNd, SP.cnt, SP.cntL]
  unfold parseS at h ⊢
  split at h
  ·rename_i h0
   rw [if_pos h0]
   generalize (SP.unit (16 * (readS okNum s).1.length + 12) false (readS okNum s).1).getD (.error (0, 0)) = r at h ⊢
   cases r with
   | error e => exact hz
   | ok y => exact absurd rfl h
  ·rename_i h0
   rw [if_neg h0]
   exact hz
end Go.Proofs.Ytpodpmjlkbbkoaa.P
