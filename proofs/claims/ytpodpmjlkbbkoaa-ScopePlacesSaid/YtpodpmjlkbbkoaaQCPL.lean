import Derived.KernelRfl
set_option linter.all false
namespace Go.Proofs.Ytpodpmjlkbbkoaa.P
namespace PL
def letC (c : UInt8) : Bool := (97 ≤ c && c ≤ 122) || (65 ≤ c && c ≤ 90)
def digC (c : UInt8) : Bool := 48 ≤ c && c ≤ 57
def worC (c : UInt8) : Bool := letC c || digC c || c == 95
def sigC (c : UInt8) : Bool := [43, 45, 42, 47, 92, 60, 62, 61, 126, 44, 64, 37, 38, 63].contains c
def blaC (c : UInt8) : Bool := c == 32 || c == 9 || c == 10 || c == 13
def oneL : List UInt8 := [40, 41, 91, 93, 124, 94, 46, 59]
def run (p : UInt8 → Bool) (l : List UInt8) : Nat := (l.takeWhile p).length
def hd (p : UInt8 → Bool) (l : List UInt8) : Bool := match l with
 | [] => false
 | c :: _ => p c
def nameN (l : List UInt8) : Nat := if hd letC l then run worC l else 0
def signN (l : List UInt8) : Nat := if hd sigC l then (if hd sigC (l.drop 1) then 2 else 1) else 0
def colonL (l : List UInt8) : Bool := hd (· == 58) l && !hd (· == 61) (l.drop 1)
def symN : Nat → List UInt8 → Nat
 | 0, _ => 0
 | f + 1, l => if colonL l then 1 + nameN (l.drop 1) + symN f (l.drop (1 + nameN (l.drop 1))) else 0
def quoLL : List UInt8 → Option (List UInt8 × Nat)
 | [] => none
 | c :: l => if c = 39 then (match l with
   | [] => some ([], 1)
   | d :: r => if d = 39 then (quoLL r).map (fun x => (39 :: x.1, x.2 + 2)) else some ([], 1))
  else (quoLL l).map (fun x => (c :: x.1, x.2 + 1))
def quotedL (l : List UInt8) : Option (List UInt8 × Nat) := if hd (· == 39) l then (quoLL (l.drop 1)).bind (fun x => if x.1.length ≤ 1024 then some (x.1, x.2 + 1) else none) else none
def symE (l : List UInt8) : Nat := nameN l + symN l.length (l.drop (nameN l))
def symbolL (l : List UInt8) : Option (List UInt8 × Nat) :=
 if hd letC l then (if symE l ≤ 1024 then some (l.take (symE l), symE l) else none)
 else if hd sigC l then some (l.take (signN l), signN l)
 else quotedL l
structure Tk where
 kind : Nat
 text : List UInt8
 place : Nat
def wordL (ok : List UInt8 → Bool) (l : List UInt8) : Option (Nat × List UInt8 × Nat) := match l with
 | [] => none
 | c :: r =>
  if letC c then (if colonL (l.drop (nameN l)) then some (2, l.take (nameN l + 1), nameN l + 1) else some (1, l.take (nameN l), nameN l))
  else if digC c then (if ok (l.take (run digC l)) then some (4, l.take (run digC l), run digC l) else none)
  else if c = 39 then (quotedL l).map (fun x => (5, x.1, x.2))
  else if c = 35 then (if hd (· == 40) r then some (17, l.take 2, 2) else (symbolL r).map (fun x => (6, x.1, x.2 + 1)))
  else if c = 58 then (if hd (· == 61) r then some (7, l.take 2, 2) else some (16, l.take 1, 1))
  else if sigC c then some (3, l.take (signN l), signN l)
  else match oneL.idxOf? c with
   | some p => some (8 + p, l.take 1, 1)
   | none => none
theorem wordL_cons (ok : List UInt8 → Bool) (c : UInt8) (r : List UInt8) : wordL ok (c :: r) = (
  if letC c then (if colonL ((c :: r).drop (nameN (c :: r))) then some (2, (c :: r).take (nameN (c :: r) + 1), nameN (c :: r) + 1) else some (1, (c :: r).take (nameN (c :: r)), nameN (c :: r)))
  else if digC c then (if ok ((c :: r).take (run digC (c :: r))) then some (4, (c :: r).take (run digC (c :: r)), run digC (c :: r)) else none)
  else if c = 39 then (quotedL (c :: r)).map (fun x => (5, x.1, x.2))
  else if c = 35 then (if hd (· == 40) r then some (17, (c :: r).take 2, 2) else (symbolL r).map (fun x => (6, x.1, x.2 + 1)))
  else if c = 58 then (if hd (· == 61) r then some (7, (c :: r).take 2, 2) else some (16, (c :: r).take 1, 1))
  else if sigC c then some (3, (c :: r).take (signN (c :: r)), signN (c :: r))
  else match oneL.idxOf? c with
   | some p => some (8 + p, (c :: r).take 1, 1)
   | none => none) := rfl
theorem quoLL_ne {c : UInt8} (hc : ¬ c = 39) (l : List UInt8) : quoLL (c :: l) = (quoLL l).map (fun x => (c :: x.1, x.2 + 1)) := by rw [quoLL.eq_def]; simp only [hc, if_false]
theorem quoLL_two (r : List UInt8) : quoLL (39 :: 39 :: r) = (quoLL r).map (fun x => (39 :: x.1, x.2 + 2)) := by rw [quoLL.eq_def]; simp
theorem quoLL_end {l : List UInt8} (h : hd (· == 39) l = false) : quoLL (39 :: l) = some ([], 1) := by
 cases l with
 | nil => rw [quoLL.eq_def]; simp
 | cons d r =>
  have : ¬ d = 39 := by simpa [hd] using h
  rw [quoLL.eq_def]; simp [this]
section
variable {l r : List UInt8}
theorem run_le (p : UInt8 → Bool) (l : List UInt8) : run p l ≤ l.length := (List.takeWhile_sublist p).length_le
theorem nameN_le (l : List UInt8) : nameN l ≤ l.length := by unfold nameN; split; exact run_le _ _; exact Nat.zero_le _
theorem letC_worC {c : UInt8} (h : letC c = true) : worC c = true := by simp [worC, h]
theorem nameN_pos (h : hd letC l = true) : 0 < nameN l := by
 unfold nameN
 rw [if_pos h]
 cases l with
 | nil => simp [hd] at h
 | cons c l => simp [hd] at h; simp [run, List.takeWhile, letC_worC h]
theorem signN_le (l : List UInt8) : signN l ≤ l.length := by
 unfold signN
 split
 ·rename_i h
  cases l with
  | nil => simp [hd] at h
  | cons c l =>
   split
   ·rename_i h2
    cases l with
    | nil => simp [hd] at h2
    | cons d l => simp
   ·simp
 ·simp
theorem colonL_len (h : colonL l = true) : 1 ≤ l.length := by
 cases l with
 | nil => simp [colonL, hd] at h
 | cons c l => simp
theorem symN_le (f : Nat) (l : List UInt8) : symN f l ≤ l.length := by
 induction f generalizing l with
 | zero => simp [symN]
 | succ f ih =>
  unfold symN
  split
  ·rename_i h
   have h1 := colonL_len h
   have h2 := nameN_le (l.drop 1)
   have h3 := ih (l.drop (1 + nameN (l.drop 1)))
   simp only [List.length_drop] at h2 h3
   omega
  ·simp
theorem symE_le (l : List UInt8) : symE l ≤ l.length := by
 unfold symE
 have h1 := nameN_le l
 have h2 := symN_le l.length (l.drop (nameN l))
 simp only [List.length_drop] at h2
 omega
end
section
variable {l r : List UInt8}
theorem run_pos {p : UInt8 → Bool} (h : hd p l = true) : 0 < run p l := by
 cases l with
 | nil => simp [hd] at h
 | cons c l => simp [hd] at h; simp [run, List.takeWhile, h]
def Whole (l : List UInt8) (m : Nat) : Prop := ¬ (m = 1 ∧ hd (· == 58) l = true ∧ hd (· == 61) (l.drop 1) = true)
theorem quoLL_le {x : List UInt8 × Nat} (h : quoLL l = some x) : 0 < x.2 ∧ x.2 ≤ l.length ∧ x.1.length < x.2 := by
 induction hn : l.length using Nat.strongRecOn generalizing l x with
 | ind n ih =>
  cases l with
  | nil => simp [quoLL] at h
  | cons c l =>
   by_cases hc : c = 39
   ·subst hc
    cases hh : hd (· == 39) l
    ·rw [quoLL_end hh] at h
     injection h with h
     subst h
     simp at hn ⊢
     omega
    ·cases l with
     | nil => simp [hd] at hh
     | cons d l =>
      obtain rfl : d = 39 := by simpa [hd] using hh
      rw [quoLL_two, Option.map_eq_some_iff] at h
      obtain ⟨y, hy, rfl⟩ := h
      have := ih l.length (by simp at hn; omega) hy rfl
      simp at hn ⊢
      omega
   ·rw [quoLL_ne hc, Option.map_eq_some_iff] at h
    obtain ⟨y, hy, rfl⟩ := h
    have := ih l.length (by simp at hn; omega) hy rfl
    simp at hn ⊢
    omega
theorem quotedL_le {x : List UInt8 × Nat} (h : quotedL l = some x) : 0 < x.2 ∧ x.2 ≤ l.length := by
 unfold quotedL at h
 split at h
 ·rename_i h1
  rw [Option.bind_eq_some_iff] at h
  obtain ⟨y, hy, h⟩ := h
  split at h
  ·injection h with h
   subst h
   have := quoLL_le hy
   simp only [List.length_drop] at this ⊢
   omega
  ·cases h
 ·cases h
theorem symbolL_le {x : List UInt8 × Nat} (h : symbolL l = some x) : 0 < x.2 ∧ x.2 ≤ l.length := by
 unfold symbolL at h
 split at h
 ·rename_i h1
  split at h
  ·injection h with h
   subst h
   have h3 := nameN_pos h1
   have h4 : nameN l ≤ symE l := by unfold symE; omega
   have h5 := symE_le l
   simp only
   omega
  ·cases h
 ·split at h
  ·rename_i h2
   injection h with h
   subst h
   have : 0 < signN l := by unfold signN; rw [if_pos h2]; split <;> omega
   exact ⟨this, signN_le l⟩
  ·exact quotedL_le h
theorem wordL_le {ok : List UInt8 → Bool} {x : Nat × List UInt8 × Nat} (h : wordL ok l = some x) : 0 < x.2.2 ∧ x.2.2 ≤ l.length ∧ (x.1 ≠ 5 → x.1 ≠ 6 → x.2.1 = l.take x.2.2) ∧ x.1 ≠ 0 := by
 cases l with
 | nil => simp [wordL] at h
 | cons c l =>
  rw [wordL_cons] at h
  split at h
  ·rename_i h1
   have h3 : 0 < nameN (c :: l) := nameN_pos h1
   have h4 := nameN_le (c :: l)
   split at h
   ·rename_i h2
    have h5 := colonL_len h2
    rw [List.length_drop] at h5
    injection h with h
    subst h
    exact ⟨Nat.succ_pos _, by show nameN (c :: l) + 1 ≤ _; omega, fun _ _ => rfl, by simp⟩
   ·injection h with h
    subst h
    exact ⟨h3, h4, fun _ _ => rfl, by simp⟩
  split at h
  ·rename_i h2
   split at h
   ·injection h with h
    subst h
    exact ⟨run_pos (p := digC) h2, run_le _ _, fun _ _ => rfl, by simp⟩
   ·cases h
  split at h
  ·rename_i h3
   simp only [Option.map_eq_some_iff] at h
   obtain ⟨y, hy, rfl⟩ := h
   exact ⟨(quotedL_le hy).1, (quotedL_le hy).2, fun h => absurd rfl h, by simp⟩
  split at h
  ·rename_i h4
   split at h
   ·rename_i h5
    injection h with h
    subst h
    cases l with
    | nil => simp [hd] at h5
    | cons d l => exact ⟨by simp, by simp, fun _ _ => rfl, by simp⟩
   ·simp only [Option.map_eq_some_iff] at h
    obtain ⟨y, hy, rfl⟩ := h
    have := symbolL_le hy
    exact ⟨Nat.succ_pos _, by simp; omega, fun _ h => absurd rfl h, by simp⟩
  split at h
  ·rename_i h5
   split at h
   ·rename_i h6
    injection h with h
    subst h
    cases l with
    | nil => simp [hd] at h6
    | cons d l => exact ⟨by simp, by simp, fun _ _ => rfl, by simp⟩
   ·injection h with h
    subst h
    exact ⟨by simp, by simp, fun _ _ => rfl, by simp⟩
  split at h
  ·rename_i h6
   injection h with h
   subst h
   have : hd sigC (c :: l) = true := h6
   have : 0 < signN (c :: l) := by unfold signN; rw [if_pos this]; split <;> omega
   exact ⟨this, signN_le _, fun _ _ => rfl, by simp⟩
  split at h
  ·rename_i p hp
   injection h with h
   subst h
   exact ⟨by simp, by simp, fun _ _ => rfl, by simp⟩
  ·cases h
end
def readF (ok : List UInt8 → Bool) : Nat → List UInt8 → Nat → Except Nat (List Tk)
 | 0, _, o => .error o
 | f + 1, [], o => .ok [⟨0, [], o⟩]
 | f + 1, c :: r, o =>
  if blaC c then readF ok f r (o + 1)
  else if c = 34 then (match r.idxOf? 34 with
   | none => .error o
   | some k => readF ok f (r.drop (k + 1)) (o + k + 2))
  else match wordL ok (c :: r) with
   | none => .error o
   | some x => (readF ok f ((c :: r).drop x.2.2) (o + x.2.2)).map (fun ts => ⟨x.1, x.2.1, o⟩ :: ts)
theorem readF_fuel (ok : List UInt8 → Bool) (f : Nat) (l : List UInt8) (o : Nat) (hf : l.length < f) (g : Nat) (hg : l.length < g) : readF ok f l o = readF ok g l o := by
 induction f generalizing l o g with
 | zero => omega
 | succ f ih =>
  cases g with
  | zero => omega
  | succ g =>
   cases l with
   | nil => rfl
   | cons c r =>
    simp only [List.length_cons] at hf hg
    unfold readF
    rw [ih r (o + 1) (by omega) g (by omega)]
    cases hk : r.idxOf? 34 with
    | none =>
     cases hx : wordL ok (c :: r) with
     | none => rfl
     | some x =>
      have h1 := (wordL_le hx).1
      simp only
      rw [ih ((c :: r).drop x.2.2) (o + x.2.2) (by simp; omega) g (by simp; omega)]
    | some k =>
     simp only
     rw [ih (r.drop (k + 1)) (o + k + 2) (by simp; omega) g (by simp; omega)]
     cases hx : wordL ok (c :: r) with
     | none => rfl
     | some x =>
      have h1 := (wordL_le hx).1
      simp only
      rw [ih ((c :: r).drop x.2.2) (o + x.2.2) (by simp; omega) g (by simp; omega)]
def read (ok : List UInt8 → Bool) (l : List UInt8) (o : Nat) : Except Nat (List Tk) := readF ok (l.length + 1) l o
theorem read_fuel (ok : List UInt8 → Bool) (f : Nat) (l : List UInt8) (o : Nat) (hf : l.length < f) : readF ok f l o = read ok l o := readF_fuel ok f l o hf _ (Nat.lt_succ_self _)
theorem read_nil (ok : List UInt8 → Bool) (o : Nat) : read ok [] o = .ok [⟨0, [], o⟩] := rfl
theorem read_cons (ok : List UInt8 → Bool) (c : UInt8) (r : List UInt8) (o : Nat) : read ok (c :: r) o =
  if blaC c then read ok r (o + 1)
  else if c = 34 then (match r.idxOf? 34 with
   | none => .error o
   | some k => read ok (r.drop (k + 1)) (o + k + 2))
  else match wordL ok (c :: r) with
   | none => .error o
   | some x => (read ok ((c :: r).drop x.2.2) (o + x.2.2)).map (fun ts => ⟨x.1, x.2.1, o⟩ :: ts) := by
 unfold read
 simp only [List.length_cons]
 conv => lhs; unfold readF
 split
 ·rfl
 split
 ·split
  ·rfl
  ·rename_i k hk
   exact read_fuel ok _ _ _ (by simp; omega)
 ·split
  ·rfl
  ·rename_i x hx
   have h1 := (wordL_le hx).1
   congr 1
   exact read_fuel ok _ _ _ (by simp; omega)
section
variable {ok : List UInt8 → Bool}
theorem map_ok {α β : Type} {e : Except Nat α} {f : α → β} {y : β} (h : e.map f = .ok y) : ∃ x, e = .ok x ∧ f x = y := by
 cases e with
 | error _ => cases h
 | ok x => exact ⟨x, rfl, by injection h⟩
inductive Rd (ok : List UInt8 → Bool) : List UInt8 → Nat → List Tk → Prop
 | nil (o : Nat) : Rd ok [] o [⟨0, [], o⟩]
 | blank {c : UInt8} {r : List UInt8} {o : Nat} {ts : List Tk} (h : blaC c = true) (k : Rd ok r (o + 1) ts) : Rd ok (c :: r) o ts
 | note {c : UInt8} {r : List UInt8} {o k : Nat} {ts : List Tk} (hb : blaC c = false) (hc : c = 34) (hk : r.idxOf? 34 = some k) (h : Rd ok (r.drop (k + 1)) (o + k + 2) ts) : Rd ok (c :: r) o ts
 | word {c : UInt8} {r : List UInt8} {o : Nat} {x : Nat × List UInt8 × Nat} {ts : List Tk} (hb : blaC c = false) (hc : ¬ c = 34) (hx : wordL ok (c :: r) = some x) (h : Rd ok ((c :: r).drop x.2.2) (o + x.2.2) ts) : Rd ok (c :: r) o (⟨x.1, x.2.1, o⟩ :: ts)
theorem Rd.of_read {l : List UInt8} {o : Nat} {ts : List Tk} (h : read ok l o = .ok ts) : Rd ok l o ts := by
 induction hn : l.length using Nat.strongRecOn generalizing l o ts with
 | ind n ih =>
  cases l with
  | nil => rw [read_nil] at h; injection h with h; subst h; exact .nil o
  | cons c r =>
   simp only [List.length_cons] at hn
   rw [read_cons] at h
   split at h
   ·rename_i h1
    exact .blank h1 (ih _ (by omega) h rfl)
   rename_i h1
   split at h
   ·rename_i h2
    split at h
    ·cases h
    ·rename_i k hk
     exact .note (by simpa using h1) h2 hk (ih _ (by simp; omega) h rfl)
   ·rename_i h2
    split at h
    ·cases h
    ·rename_i x hx
     have := (wordL_le hx).1
     obtain ⟨ts', h3, rfl⟩ := map_ok h
     exact .word (by simpa using h1) h2 hx (ih _ (by simp; omega) h3 rfl)
theorem Rd.ne {l : List UInt8} {o : Nat} {ts : List Tk} (h : Rd ok l o ts) : ts ≠ [] := by
 induction h with
 | nil o => simp
 | blank h k ih => exact ih
 | note hb hc hk h ih => exact ih
 | word hb hc hx h ih => simp
theorem idxOf_lt {r : List UInt8} {k : Nat} {c : UInt8} (h : r.idxOf? c = some k) : k < r.length := by
 unfold List.idxOf? at h
 exact (List.findIdx?_eq_some_iff_getElem.1 h).1
theorem Rd.place_ge {l : List UInt8} {o : Nat} {ts : List Tk} (h : Rd ok l o ts) : ∀ t ∈ ts, o ≤ t.place := by
 induction h with
 | nil o => simp
 | blank h k ih => intro t ht; have := ih t ht; omega
 | note hb hc hk h ih => intro t ht; have := ih t ht; omega
 | word hb hc hx h ih =>
  intro t ht
  rcases List.mem_cons.1 ht with rfl | ht
  ·exact Nat.le_refl _
  ·have := ih t ht; omega
theorem Rd.place_le {l : List UInt8} {o : Nat} {ts : List Tk} (h : Rd ok l o ts) : ∀ t ∈ ts, t.place ≤ o + l.length := by
 induction h with
 | nil o => simp
 | blank h k ih => intro t ht; have := ih t ht; simp at *; omega
 | note hb hc hk h ih => intro t ht; have := ih t ht; have := idxOf_lt hk; simp at *; omega
 | word hb hc hx h ih =>
  intro t ht
  have := (wordL_le hx).2.1
  rcases List.mem_cons.1 ht with rfl | ht
  ·simp
  ·have := ih t ht
   simp only [List.length_drop] at *
   omega
theorem Rd.places {l : List UInt8} {o : Nat} {ts : List Tk} (h : Rd ok l o ts) :
  (∀ i (hi : i < ts.length), (ts[i].kind = 0 ↔ i + 1 = ts.length)) ∧
  (∀ i (hi : i + 1 < ts.length), ts[i].place < ts[i + 1].place) ∧
  (∀ t ∈ ts, t.kind ≠ 5 → t.kind ≠ 6 → t.kind ≠ 0 → 0 < t.text.length ∧ t.text.length ≤ o + l.length - t.place ∧ (l.drop (t.place - o)).take t.text.length = t.text) ∧
  (∀ t ∈ ts.getLast?, t.place = o + l.length ∧ t.kind = 0 ∧ t.text = []) := by
 induction h with
 | nil o =>
  refine ⟨fun i hi => ?_, fun i hi => ?_, ?_, ?_⟩
  ·have : i = 0 := by simpa using hi
   subst this
   simp
  ·simp at hi
  ·intro t ht; simp at ht; subst ht; intro _ _ h; exact absurd rfl h
  ·intro t ht; simp at ht; subst ht; simp
 | @blank c r o ts h k ih =>
  have hg := k.place_ge
  obtain ⟨i1, i2, i3, i4⟩ := ih
  refine ⟨i1, i2, fun t ht h1 h2 h3 => ?_, fun t ht => ?_⟩
  ·obtain ⟨g1, g2, g3⟩ := i3 t ht h1 h2 h3
   have := hg t ht
   refine ⟨g1, by simp; omega, ?_⟩
   rw [show t.place - o = (t.place - (o + 1)) + 1 by omega, List.drop_succ_cons]
   exact g3
  ·obtain ⟨g1, g2⟩ := i4 t ht
   exact ⟨by simp; omega, g2⟩
 | @note c r o k ts hb hc hk h ih =>
  have hg := h.place_ge
  have hlt := idxOf_lt hk
  obtain ⟨i1, i2, i3, i4⟩ := ih
  refine ⟨i1, i2, fun t ht h1 h2 h3 => ?_, fun t ht => ?_⟩
  ·obtain ⟨g1, g2, g3⟩ := i3 t ht h1 h2 h3
   have := hg t ht
   refine ⟨g1, by simp at g2 ⊢; omega, ?_⟩
   rw [List.drop_drop] at g3
   rw [show t.place - o = (k + 1 + (t.place - (o + k + 2))) + 1 by omega, List.drop_succ_cons]
   exact g3
  ·obtain ⟨g1, g2⟩ := i4 t ht
   exact ⟨by simp at g1 ⊢; omega, g2⟩
 | @word c r o x ts hb hc hx h ih =>
  have hg := h.place_ge
  have hl := wordL_le hx
  obtain ⟨i1, i2, i3, i4⟩ := ih
  have hne := h.ne
  refine ⟨fun i hi => ?_, fun i hi => ?_, fun t ht h1 h2 h3 => ?_, fun t ht => ?_⟩
  ·cases i with
   | zero =>
    simp only [List.getElem_cons_zero, List.length_cons]
    have : 0 < ts.length := List.length_pos_iff.2 hne
    constructor
    ·intro h; exact absurd h hl.2.2.2
    ·intro h; omega
   | succ i =>
    have := i1 i (by simpa using hi)
    simp only [List.getElem_cons_succ, List.length_cons]
    rw [this]
    omega
  ·cases i with
   | zero =>
    simp only [List.getElem_cons_zero, List.getElem_cons_succ]
    have h0 : 0 < ts.length := by simpa using hi
    have := hg ts[0] (List.getElem_mem h0)
    omega
   | succ i =>
    simp only [List.getElem_cons_succ]
    exact i2 i (by simpa using hi)
  ·rcases List.mem_cons.1 ht with rfl | ht
   ·have e := hl.2.2.1 h1 h2
    simp only at e ⊢
    have e2 : x.2.1.length = x.2.2 := by rw [e, List.length_take]; have := hl.2.1; omega
    rw [e2]
    refine ⟨hl.1, by have := hl.2.1; omega, ?_⟩
    rw [Nat.sub_self, List.drop_zero]
    exact e.symm
   ·obtain ⟨g1, g2, g3⟩ := i3 t ht h1 h2 h3
    have := hg t ht
    have := hl.2.1
    refine ⟨g1, by simp only [List.length_drop] at g2; omega, ?_⟩
    rw [List.drop_drop] at g3
    rw [show t.place - o = x.2.2 + (t.place - (o + x.2.2)) by omega]
    exact g3
  ·have ht2 : t ∈ ts.getLast? := by
    cases ts with
    | nil => exact absurd rfl hne
    | cons a ts => simpa using ht
   obtain ⟨g1, g2⟩ := i4 t ht2
   have := hl.2.1
   exact ⟨by simp only [List.length_drop] at g1; omega, g2⟩
end
def escL : List UInt8 → List UInt8
 | [] => []
 | c :: l => if c = 39 then 39 :: 39 :: escL l else c :: escL l
def quoteL (t : List UInt8) : List UInt8 := 39 :: (escL t ++ [39])
def plainSym (t : List UInt8) : Bool := !(t.isEmpty) && !(hd (· == 39) t) && (match symbolL t with
 | some x => x.1 == t
 | none => false)
def written (k : Nat) (t : List UInt8) : List UInt8 := if k = 5 then quoteL t else if k = 6 then (if plainSym t then 35 :: t else 35 :: quoteL t) else t
def wr : List Tk → List UInt8
 | [] => []
 | t :: ts => written t.kind t.text ++ 32 :: wr ts
section
variable {ok : List UInt8 → Bool}
theorem symbolL_len {l : List UInt8} {x : List UInt8 × Nat} (h : symbolL l = some x) : x.1.length ≤ 1024 := by
 unfold symbolL at h
 split at h
 ·split at h
  ·injection h with h; subst h; simp; omega
  ·cases h
 ·split at h
  ·injection h with h; subst h
   have : signN l ≤ 2 := by unfold signN; split <;> (try split) <;> omega
   simp
   omega
  ·unfold quotedL at h
   split at h
   ·rw [Option.bind_eq_some_iff] at h
    obtain ⟨y, hy, h⟩ := h
    split at h
    ·injection h with h; subst h; assumption
    ·cases h
   ·cases h
theorem quotedL_len {l : List UInt8} {x : List UInt8 × Nat} (h : quotedL l = some x) : x.1.length ≤ 1024 := by
 unfold quotedL at h
 split at h
 ·rw [Option.bind_eq_some_iff] at h
  obtain ⟨y, hy, h⟩ := h
  split at h
  ·injection h with h; subst h; assumption
  ·cases h
 ·cases h
end
end PL
end Go.Proofs.Ytpodpmjlkbbkoaa.P
