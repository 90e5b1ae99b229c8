import Derived.KernelRfl
set_option linter.all false
namespace Go.Proofs.Ytpodpmjlkbbkoaa.P
namespace PL
def letC (c : UInt8) : Bool := (97 ≤ c && c ≤ 122) || (65 ≤ c && c ≤ 90)
def digC (c : UInt8) : Bool := 48 ≤ c && c ≤ 57
def worC (c : UInt8) : Bool := letC c || digC c || c == 95
def sigC (c : UInt8) : Bool := [43, 45, 42, 47, 92, 60, 62, 61, 126, 44, 64, 37, 38, 63].contains c
def blaC (c : UInt8) : Bool := c == 32 || c == 9 || c == 10 || c == 13
def oneL : List UInt8 := [40, 41, 91, 93, 124, 94, 46, 59]
def run (p : UInt8 → Bool) (l : List UInt8) : Nat := (l.takeWhile p).length
def hd (p : UInt8 → Bool) (l : List UInt8) : Bool := match l with
 | [] => false
 | c :: _ => p c
def nameN (l : List UInt8) : Nat := if hd letC l then run worC l else 0
def signN (l : List UInt8) : Nat := if hd sigC l then (if hd sigC (l.drop 1) then 2 else 1) else 0
def colonL (l : List UInt8) : Bool := hd (· == 58) l && !hd (· == 61) (l.drop 1)
def symN : Nat → List UInt8 → Nat
 | 0, _ => 0
 | f + 1, l => if colonL l then 1 + nameN (l.drop 1) + symN f (l.drop (1 + nameN (l.drop 1))) else 0
def quoLL : List UInt8 → Option (List UInt8 × Nat)
 | [] => none
 | c :: l => if c = 39 then (match l with
   | [] => some ([], 1)
   | d :: r => if d = 39 then (quoLL r).map (fun x => (39 :: x.1, x.2 + 2)) else some ([], 1))
  else (quoLL l).map (fun x => (c :: x.1, x.2 + 1))
def quotedL (l : List UInt8) : Option (List UInt8 × Nat) := if hd (· == 39) l then (quoLL (l.drop 1)).bind (fun x => if x.1.length ≤ 1024 then some (x.1, x.2 + 1) else none) else none
def symE (l : List UInt8) : Nat := nameN l + symN l.length (l.drop (nameN l))
def symbolL (l : List UInt8) : Option (List UInt8 × Nat) :=
 if hd letC l then (if symE l ≤ 1024 then some (l.take (symE l), symE l) else none)
 else if hd sigC l then some (l.take (signN l), signN l)
 else quotedL l
structure Tk where
 kind : Nat
 text : List UInt8
 place : Nat
def wordL (ok : List UInt8 → Bool) (l : List UInt8) : Option (Nat × List UInt8 × Nat) := match l with
 | [] => none
 | c :: r =>
  if letC c then (if colonL (l.drop (nameN l)) then some (2, l.take (nameN l + 1), nameN l + 1) else some (1, l.take (nameN l), nameN l))
  else if digC c then (if ok (l.take (run digC l)) then some (4, l.take (run digC l), run digC l) else none)
  else if c = 39 then (quotedL l).map (fun x => (5, x.1, x.2))
  else if c = 35 then (if hd (· == 40) r then some (17, l.take 2, 2) else (symbolL r).map (fun x => (6, x.1, x.2 + 1)))
  else if c = 58 then (if hd (· == 61) r then some (7, l.take 2, 2) else some (16, l.take 1, 1))
  else if sigC c then some (3, l.take (signN l), signN l)
  else match oneL.idxOf? c with
   | some p => some (8 + p, l.take 1, 1)
   | none => none
theorem wordL_cons (ok : List UInt8 → Bool) (c : UInt8) (r : List UInt8) : wordL ok (c :: r) = (
  if letC c then (if colonL ((c :: r).drop (nameN (c :: r))) then some (2, (c :: r).take (nameN (c :: r) + 1), nameN (c :: r) + 1) else some (1, (c :: r).take (nameN (c :: r)), nameN (c :: r)))
  else if digC c then (if ok ((c :: r).take (run digC (c :: r))) then some (4, (c :: r).take (run digC (c :: r)), run digC (c :: r)) else none)
  else if c = 39 then (quotedL (c :: r)).map (fun x => (5, x.1, x.2))
  else if c = 35 then (if hd (· == 40) r then some (17, (c :: r).take 2, 2) else (symbolL r).map (fun x => (6, x.1, x.2 + 1)))
  else if c = 58 then (if hd (· == 61) r then some (7, (c :: r).take 2, 2) else some (16, (c :: r).take 1, 1))
  else if sigC c then some (3, (c :: r).take (signN (c :: r)), signN (c :: r))
  else match oneL.idxOf? c with
   | some p => some (8 + p, (c :: r).take 1, 1)
   | none => none) := rfl
theorem quoLL_ne {c : UInt8} (hc : ¬ c = 39) (l : List UInt8) : quoLL (c :: l) = (quoLL l).map (fun x => (c :: x.1, x.2 + 1)) := by rw [quoLL.eq_def]; simp only [hc, if_false]
theorem quoLL_two (r : List UInt8) : quoLL (39 :: 39 :: r) = (quoLL r).map (fun x => (39 :: x.1, x.2 + 2)) := by rw [quoLL.eq_def]; simp
theorem quoLL_end {l : List UInt8} (h : hd (· == 39) l = false) : quoLL (39 :: l) = some ([], 1) := by
 cases l with
 | nil => rw [quoLL.eq_def]; simp
 | cons d r =>
  have : ¬ d = 39 := by simpa [hd] using h
  rw [quoLL.eq_def]; simp [this]
section
variable {l r : List UInt8}
theorem run_le (p : UInt8 → Bool) (l : List UInt8) : run p l ≤ l.length := (List.takeWhile_sublist p).length_le
theorem nameN_le (l : List UInt8) : nameN l ≤ l.length := by unfold nameN; split; exact run_le _ _; exact Nat.zero_le _
theorem letC_worC {c : UInt8} (h : letC c = true) : worC c = true := by simp [worC, h]
theorem nameN_pos (h : hd letC l = true) : 0 < nameN l := by
 unfold nameN
 rw [if_pos h]
 cases l with
 | nil => simp [hd] at h
 | cons c l => simp [hd] at h; simp [run, List.takeWhile, letC_worC h]
theorem signN_le (l : List UInt8) : signN l ≤ l.length := by
 unfold signN
 split
 ·rename_i h
  cases l with
  | nil => simp [hd] at h
  | cons c l =>
   split
   ·rename_i h2
    cases l with
    | nil => simp [hd] at h2
    | cons d l => simp
   ·simp
 ·simp
theorem colonL_len (h : colonL l = true) : 1 ≤ l.length := by
 cases l with
 | nil => simp [colonL, hd] at h
 | cons c l => simp
theorem symN_le (f : Nat) (l : List UInt8) : symN f l ≤ l.length := by
 induction f generalizing l with
 | zero => simp [symN]
 | succ f ih =>
  unfold symN
  split
  ·rename_i h
   have h1 := colonL_len h
   have h2 := nameN_le (l.drop 1)
   have h3 := ih (l.drop (1 + nameN (l.drop 1)))
   simp only [List.length_drop] at h2 h3
   omega
  ·simp
theorem symN_fuel (f : Nat) (l : List UInt8) (hf : l.length ≤ f) (g : Nat) (hg : l.length ≤ g) : symN f l = symN g l := by
 induction f generalizing l g with
 | zero =>
  have : l = [] := List.length_eq_zero_iff.1 (by omega)
  subst this
  cases g <;> simp [symN, colonL, hd]
 | succ f ih =>
  cases g with
  | zero =>
   have : l = [] := List.length_eq_zero_iff.1 (by omega)
   subst this
   simp [symN, colonL, hd]
  | succ g =>
   unfold symN
   split
   ·rename_i h
    have h1 := colonL_len h
    rw [ih (l.drop (1 + nameN (l.drop 1))) (by simp; omega) g (by simp; omega)]
   ·rfl
theorem symE_le (l : List UInt8) : symE l ≤ l.length := by
 unfold symE
 have h1 := nameN_le l
 have h2 := symN_le l.length (l.drop (nameN l))
 simp only [List.length_drop] at h2
 omega
end
section
variable {l r : List UInt8}
theorem run_pos {p : UInt8 → Bool} (h : hd p l = true) : 0 < run p l := by
 cases l with
 | nil => simp [hd] at h
 | cons c l => simp [hd] at h; simp [run, List.takeWhile, h]
def Whole (l : List UInt8) (m : Nat) : Prop := ¬ (m = 1 ∧ hd (· == 58) l = true ∧ hd (· == 61) (l.drop 1) = true)
theorem quoLL_le {x : List UInt8 × Nat} (h : quoLL l = some x) : 0 < x.2 ∧ x.2 ≤ l.length ∧ x.1.length < x.2 := by
 induction hn : l.length using Nat.strongRecOn generalizing l x with
 | ind n ih =>
  cases l with
  | nil => simp [quoLL] at h
  | cons c l =>
   by_cases hc : c = 39
   ·subst hc
    cases hh : hd (· == 39) l
    ·rw [quoLL_end hh] at h
     injection h with h
     subst h
     simp at hn ⊢
     omega
    ·cases l with
     | nil => simp [hd] at hh
     | cons d l =>
      obtain rfl : d = 39 := by simpa [hd] using hh
      rw [quoLL_two, Option.map_eq_some_iff] at h
      obtain ⟨y, hy, rfl⟩ := h
      have := ih l.length (by simp at hn; omega) hy rfl
      simp at hn ⊢
      omega
   ·rw [quoLL_ne hc, Option.map_eq_some_iff] at h
    obtain ⟨y, hy, rfl⟩ := h
    have := ih l.length (by simp at hn; omega) hy rfl
    simp at hn ⊢
    omega
theorem quotedL_le {x : List UInt8 × Nat} (h : quotedL l = some x) : 0 < x.2 ∧ x.2 ≤ l.length := by
 unfold quotedL at h
 split at h
 ·rename_i h1
  rw [Option.bind_eq_some_iff] at h
  obtain ⟨y, hy, h⟩ := h
  split at h
  ·injection h with h
   subst h
   have := quoLL_le hy
   simp only [List.length_drop] at this ⊢
   omega
  ·cases h
 ·cases h
theorem symbolL_le {x : List UInt8 × Nat} (h : symbolL l = some x) : 0 < x.2 ∧ x.2 ≤ l.length := by
 unfold symbolL at h
 split at h
 ·rename_i h1
  split at h
  ·injection h with h
   subst h
   have h3 := nameN_pos h1
   have h4 : nameN l ≤ symE l := by unfold symE; omega
   have h5 := symE_le l
   simp only
   omega
  ·cases h
 ·split at h
  ·rename_i h2
   injection h with h
   subst h
   have : 0 < signN l := by unfold signN; rw [if_pos h2]; split <;> omega
   exact ⟨this, signN_le l⟩
  ·exact quotedL_le h
theorem wordL_le {ok : List UInt8 → Bool} {x : Nat × List UInt8 × Nat} (h : wordL ok l = some x) : 0 < x.2.2 ∧ x.2.2 ≤ l.length ∧ (x.1 ≠ 5 → x.1 ≠ 6 → x.2.1 = l.take x.2.2) ∧ x.1 ≠ 0 := by
 cases l with
 | nil => simp [wordL] at h
 | cons c l =>
  rw [wordL_cons] at h
  split at h
  ·rename_i h1
   have h3 : 0 < nameN (c :: l) := nameN_pos h1
   have h4 := nameN_le (c :: l)
   split at h
   ·rename_i h2
    have h5 := colonL_len h2
    rw [List.length_drop] at h5
    injection h with h
    subst h
    exact ⟨Nat.succ_pos _, by show nameN (c :: l) + 1 ≤ _; omega, fun _ _ => rfl, by simp⟩
   ·injection h with h
    subst h
    exact ⟨h3, h4, fun _ _ => rfl, by simp⟩
  split at h
  ·rename_i h2
   split at h
   ·injection h with h
    subst h
    exact ⟨run_pos (p := digC) h2, run_le _ _, fun _ _ => rfl, by simp⟩
   ·cases h
  split at h
  ·rename_i h3
   simp only [Option.map_eq_some_iff] at h
   obtain ⟨y, hy, rfl⟩ := h
   exact ⟨(quotedL_le hy).1, (quotedL_le hy).2, fun h => absurd rfl h, by simp⟩
  split at h
  ·rename_i h4
   split at h
   ·rename_i h5
    injection h with h
    subst h
    cases l with
    | nil => simp [hd] at h5
    | cons d l => exact ⟨by simp, by simp, fun _ _ => rfl, by simp⟩
   ·simp only [Option.map_eq_some_iff] at h
    obtain ⟨y, hy, rfl⟩ := h
    have := symbolL_le hy
    exact ⟨Nat.succ_pos _, by simp; omega, fun _ h => absurd rfl h, by simp⟩
  split at h
  ·rename_i h5
   split at h
   ·rename_i h6
    injection h with h
    subst h
    cases l with
    | nil => simp [hd] at h6
    | cons d l => exact ⟨by simp, by simp, fun _ _ => rfl, by simp⟩
   ·injection h with h
    subst h
    exact ⟨by simp, by simp, fun _ _ => rfl, by simp⟩
  split at h
  ·rename_i h6
   injection h with h
   subst h
   have : hd sigC (c :: l) = true := h6
   have : 0 < signN (c :: l) := by unfold signN; rw [if_pos this]; split <;> omega
   exact ⟨this, signN_le _, fun _ _ => rfl, by simp⟩
  split at h
  ·rename_i p hp
   injection h with h
   subst h
   exact ⟨by simp, by simp, fun _ _ => rfl, by simp⟩
  ·cases h
end
def readF (ok : List UInt8 → Bool) : Nat → List UInt8 → Nat → Except Nat (List Tk)
 | 0, _, o => .error o
 | f + 1, [], o => .ok [⟨0, [], o⟩]
 | f + 1, c :: r, o =>
  if blaC c then readF ok f r (o + 1)
  else if c = 34 then (match r.idxOf? 34 with
   | none => .error o
   | some k => readF ok f (r.drop (k + 1)) (o + k + 2))
  else match wordL ok (c :: r) with
   | none => .error o
   | some x => (readF ok f ((c :: r).drop x.2.2) (o + x.2.2)).map (fun ts => ⟨x.1, x.2.1, o⟩ :: ts)
theorem readF_fuel (ok : List UInt8 → Bool) (f : Nat) (l : List UInt8) (o : Nat) (hf : l.length < f) (g : Nat) (hg : l.length < g) : readF ok f l o = readF ok g l o := by
 induction f generalizing l o g with
 | zero => omega
 | succ f ih =>
  cases g with
  | zero => omega
  | succ g =>
   cases l with
   | nil => rfl
   | cons c r =>
    simp only [List.length_cons] at hf hg
    unfold readF
    rw [ih r (o + 1) (by omega) g (by omega)]
    cases hk : r.idxOf? 34 with
    | none =>
     cases hx : wordL ok (c :: r) with
     | none => rfl
     | some x =>
      have h1 := (wordL_le hx).1
      simp only
      rw [ih ((c :: r).drop x.2.2) (o + x.2.2) (by simp; omega) g (by simp; omega)]
    | some k =>
     simp only
     rw [ih (r.drop (k + 1)) (o + k + 2) (by simp; omega) g (by simp; omega)]
     cases hx : wordL ok (c :: r) with
     | none => rfl
     | some x =>
      have h1 := (wordL_le hx).1
      simp only
      rw [ih ((c :: r).drop x.2.2) (o + x.2.2) (by simp; omega) g (by simp; omega)]
def read (ok : List UInt8 → Bool) (l : List UInt8) (o : Nat) : Except Nat (List Tk) := readF ok (l.length + 1) l o
theorem read_fuel (ok : List UInt8 → Bool) (f : Nat) (l : List UInt8) (o : Nat) (hf : l.length < f) : readF ok f l o = read ok l o := readF_fuel ok f l o hf _ (Nat.lt_succ_self _)
theorem read_nil (ok : List UInt8 → Bool) (o : Nat) : read ok [] o = .ok [⟨0, [], o⟩] := rfl
theorem read_cons (ok : List UInt8 → Bool) (c : UInt8) (r : List UInt8) (o : Nat) : read ok (c :: r) o =
  if blaC c then read ok r (o + 1)
  else if c = 34 then (match r.idxOf? 34 with
   | none => .error o
   | some k => read ok (r.drop (k + 1)) (o + k + 2))
  else match wordL ok (c :: r) with
   | none => .error o
   | some x => (read ok ((c :: r).drop x.2.2) (o + x.2.2)).map (fun ts => ⟨x.1, x.2.1, o⟩ :: ts) := by
 unfold read
 simp only [List.length_cons]
 conv => lhs; unfold readF
 split
 ·rfl
 split
 ·split
  ·rfl
  ·rename_i k hk
   exact read_fuel ok _ _ _ (by simp; omega)
 ·split
  ·rfl
  ·rename_i x hx
   have h1 := (wordL_le hx).1
   congr 1
   exact read_fuel ok _ _ _ (by simp; omega)
section
variable {ok : List UInt8 → Bool}
theorem map_ok {α β : Type} {e : Except Nat α} {f : α → β} {y : β} (h : e.map f = .ok y) : ∃ x, e = .ok x ∧ f x = y := by
 cases e with
 | error _ => cases h
 | ok x => exact ⟨x, rfl, by injection h⟩
inductive Rd (ok : List UInt8 → Bool) : List UInt8 → Nat → List Tk → Prop
 | nil (o : Nat) : Rd ok [] o [⟨0, [], o⟩]
 | blank {c : UInt8} {r : List UInt8} {o : Nat} {ts : List Tk} (h : blaC c = true) (k : Rd ok r (o + 1) ts) : Rd ok (c :: r) o ts
 | note {c : UInt8} {r : List UInt8} {o k : Nat} {ts : List Tk} (hb : blaC c = false) (hc : c = 34) (hk : r.idxOf? 34 = some k) (h : Rd ok (r.drop (k + 1)) (o + k + 2) ts) : Rd ok (c :: r) o ts
 | word {c : UInt8} {r : List UInt8} {o : Nat} {x : Nat × List UInt8 × Nat} {ts : List Tk} (hb : blaC c = false) (hc : ¬ c = 34) (hx : wordL ok (c :: r) = some x) (h : Rd ok ((c :: r).drop x.2.2) (o + x.2.2) ts) : Rd ok (c :: r) o (⟨x.1, x.2.1, o⟩ :: ts)
theorem Rd.of_read {l : List UInt8} {o : Nat} {ts : List Tk} (h : read ok l o = .ok ts) : Rd ok l o ts := by
 induction hn : l.length using Nat.strongRecOn generalizing l o ts with
 | ind n ih =>
  cases l with
  | nil => rw [read_nil] at h; injection h with h; subst h; exact .nil o
  | cons c r =>
   simp only [List.length_cons] at hn
   rw [read_cons] at h
   split at h
   ·rename_i h1
    exact .blank h1 (ih _ (by omega) h rfl)
   rename_i h1
   split at h
   ·rename_i h2
    split at h
    ·cases h
    ·rename_i k hk
     exact .note (by simpa using h1) h2 hk (ih _ (by simp; omega) h rfl)
   ·rename_i h2
    split at h
    ·cases h
    ·rename_i x hx
     have := (wordL_le hx).1
     obtain ⟨ts', h3, rfl⟩ := map_ok h
     exact .word (by simpa using h1) h2 hx (ih _ (by simp; omega) h3 rfl)
theorem Rd.read {l : List UInt8} {o : Nat} {ts : List Tk} (h : Rd ok l o ts) : PL.read ok l o = .ok ts := by
 induction h with
 | nil o => rfl
 | blank h k ih => rw [read_cons, if_pos h, ih]
 | note hb hc hk h ih => rw [read_cons, if_neg (by simp [hb]), if_pos hc, hk]; exact ih
 | word hb hc hx h ih => rw [read_cons, if_neg (by simp [hb]), if_neg hc, hx]; simp only; rw [ih]; rfl
theorem Rd.ne {l : List UInt8} {o : Nat} {ts : List Tk} (h : Rd ok l o ts) : ts ≠ [] := by
 induction h with
 | nil o => simp
 | blank h k ih => exact ih
 | note hb hc hk h ih => exact ih
 | word hb hc hx h ih => simp
theorem shift_word (f : Nat) (l : List UInt8) (o d : Nat) : readF ok f l (o + d) = match readF ok f l o with
  | .ok ts => .ok (ts.map fun t => ⟨t.kind, t.text, t.place + d⟩)
  | .error p => .error (p + d) := by
 induction f generalizing l o with
 | zero => simp [readF]
 | succ f ih =>
  cases l with
  | nil => simp [readF]
  | cons c r =>
   unfold readF
   split
   ·rw [show o + d + 1 = o + 1 + d by omega, ih]
   split
   ·cases hk : r.idxOf? 34 with
    | none => rfl
    | some k =>
     simp only
     rw [show o + d + k + 2 = o + k + 2 + d by omega, ih]
   ·cases hx : wordL ok (c :: r) with
    | none => rfl
    | some x =>
     simp only
     rw [show o + d + x.2.2 = o + x.2.2 + d by omega, ih]
     cases readF ok f ((c :: r).drop x.2.2) (o + x.2.2) <;> rfl
theorem read_shift (l : List UInt8) (o d : Nat) : read ok l (o + d) = match read ok l o with
  | .ok ts => .ok (ts.map fun t => ⟨t.kind, t.text, t.place + d⟩)
  | .error p => .error (p + d) := shift_word _ l o d
theorem idxOf_lt {r : List UInt8} {k : Nat} {c : UInt8} (h : r.idxOf? c = some k) : k < r.length := by
 unfold List.idxOf? at h
 exact (List.findIdx?_eq_some_iff_getElem.1 h).1
theorem Rd.place_ge {l : List UInt8} {o : Nat} {ts : List Tk} (h : Rd ok l o ts) : ∀ t ∈ ts, o ≤ t.place := by
 induction h with
 | nil o => simp
 | blank h k ih => intro t ht; have := ih t ht; omega
 | note hb hc hk h ih => intro t ht; have := ih t ht; omega
 | word hb hc hx h ih =>
  intro t ht
  rcases List.mem_cons.1 ht with rfl | ht
  ·exact Nat.le_refl _
  ·have := ih t ht; omega
theorem Rd.place_le {l : List UInt8} {o : Nat} {ts : List Tk} (h : Rd ok l o ts) : ∀ t ∈ ts, t.place ≤ o + l.length := by
 induction h with
 | nil o => simp
 | blank h k ih => intro t ht; have := ih t ht; simp at *; omega
 | note hb hc hk h ih => intro t ht; have := ih t ht; have := idxOf_lt hk; simp at *; omega
 | word hb hc hx h ih =>
  intro t ht
  have := (wordL_le hx).2.1
  rcases List.mem_cons.1 ht with rfl | ht
  ·simp
  ·have := ih t ht
   simp only [List.length_drop] at *
   omega
theorem Rd.places {l : List UInt8} {o : Nat} {ts : List Tk} (h : Rd ok l o ts) :
  (∀ i (hi : i < ts.length), (ts[i].kind = 0 ↔ i + 1 = ts.length)) ∧
  (∀ i (hi : i + 1 < ts.length), ts[i].place < ts[i + 1].place) ∧
  (∀ t ∈ ts, t.kind ≠ 5 → t.kind ≠ 6 → t.kind ≠ 0 → 0 < t.text.length ∧ t.text.length ≤ o + l.length - t.place ∧ (l.drop (t.place - o)).take t.text.length = t.text) ∧
  (∀ t ∈ ts.getLast?, t.place = o + l.length ∧ t.kind = 0 ∧ t.text = []) := by
 induction h with
 | nil o =>
  refine ⟨fun i hi => ?_, fun i hi => ?_, ?_, ?_⟩
  ·have : i = 0 := by simpa using hi
   subst this
   simp
  ·simp at hi
  ·intro t ht; simp at ht; subst ht; intro _ _ h; exact absurd rfl h
  ·intro t ht; simp at ht; subst ht; simp
 | @blank c r o ts h k ih =>
  have hg := k.place_ge
  obtain ⟨i1, i2, i3, i4⟩ := ih
  refine ⟨i1, i2, fun t ht h1 h2 h3 => ?_, fun t ht => ?_⟩
  ·obtain ⟨g1, g2, g3⟩ := i3 t ht h1 h2 h3
   have := hg t ht
   refine ⟨g1, by simp; omega, ?_⟩
   rw [show t.place - o = (t.place - (o + 1)) + 1 by omega, List.drop_succ_cons]
   exact g3
  ·obtain ⟨g1, g2⟩ := i4 t ht
   exact ⟨by simp; omega, g2⟩
 | @note c r o k ts hb hc hk h ih =>
  have hg := h.place_ge
  have hlt := idxOf_lt hk
  obtain ⟨i1, i2, i3, i4⟩ := ih
  refine ⟨i1, i2, fun t ht h1 h2 h3 => ?_, fun t ht => ?_⟩
  ·obtain ⟨g1, g2, g3⟩ := i3 t ht h1 h2 h3
   have := hg t ht
   refine ⟨g1, by simp at g2 ⊢; omega, ?_⟩
   rw [List.drop_drop] at g3
   rw [show t.place - o = (k + 1 + (t.place - (o + k + 2))) + 1 by omega, List.drop_succ_cons]
   exact g3
  ·obtain ⟨g1, g2⟩ := i4 t ht
   exact ⟨by simp at g1 ⊢; omega, g2⟩
 | @word c r o x ts hb hc hx h ih =>
  have hg := h.place_ge
  have hl := wordL_le hx
  obtain ⟨i1, i2, i3, i4⟩ := ih
  have hne := h.ne
  refine ⟨fun i hi => ?_, fun i hi => ?_, fun t ht h1 h2 h3 => ?_, fun t ht => ?_⟩
  ·cases i with
   | zero =>
    simp only [List.getElem_cons_zero, List.length_cons]
    have : 0 < ts.length := List.length_pos_iff.2 hne
    constructor
    ·intro h; exact absurd h hl.2.2.2
    ·intro h; omega
   | succ i =>
    have := i1 i (by simpa using hi)
    simp only [List.getElem_cons_succ, List.length_cons]
    rw [this]
    omega
  ·cases i with
   | zero =>
    simp only [List.getElem_cons_zero, List.getElem_cons_succ]
    have h0 : 0 < ts.length := by simpa using hi
    have := hg ts[0] (List.getElem_mem h0)
    omega
   | succ i =>
    simp only [List.getElem_cons_succ]
    exact i2 i (by simpa using hi)
  ·rcases List.mem_cons.1 ht with rfl | ht
   ·have e := hl.2.2.1 h1 h2
    simp only at e ⊢
    have e2 : x.2.1.length = x.2.2 := by rw [e, List.length_take]; have := hl.2.1; omega
    rw [e2]
    refine ⟨hl.1, by have := hl.2.1; omega, ?_⟩
    rw [Nat.sub_self, List.drop_zero]
    exact e.symm
   ·obtain ⟨g1, g2, g3⟩ := i3 t ht h1 h2 h3
    have := hg t ht
    have := hl.2.1
    refine ⟨g1, by simp only [List.length_drop] at g2; omega, ?_⟩
    rw [List.drop_drop] at g3
    rw [show t.place - o = x.2.2 + (t.place - (o + x.2.2)) by omega]
    exact g3
  ·have ht2 : t ∈ ts.getLast? := by
    cases ts with
    | nil => exact absurd rfl hne
    | cons a ts => simpa using ht
   obtain ⟨g1, g2⟩ := i4 t ht2
   have := hl.2.1
   exact ⟨by simp only [List.length_drop] at g1; omega, g2⟩
end
def escL : List UInt8 → List UInt8
 | [] => []
 | c :: l => if c = 39 then 39 :: 39 :: escL l else c :: escL l
def quoteL (t : List UInt8) : List UInt8 := 39 :: (escL t ++ [39])
def plainSym (t : List UInt8) : Bool := !(t.isEmpty) && !(hd (· == 39) t) && (match symbolL t with
 | some x => x.1 == t
 | none => false)
def written (k : Nat) (t : List UInt8) : List UInt8 := if k = 5 then quoteL t else if k = 6 then (if plainSym t then 35 :: t else 35 :: quoteL t) else t
def wr : List Tk → List UInt8
 | [] => []
 | t :: ts => written t.kind t.text ++ 32 :: wr ts
section
variable {ok : List UInt8 → Bool}
theorem symbolL_len {l : List UInt8} {x : List UInt8 × Nat} (h : symbolL l = some x) : x.1.length ≤ 1024 := by
 unfold symbolL at h
 split at h
 ·split at h
  ·injection h with h; subst h; simp; omega
  ·cases h
 ·split at h
  ·injection h with h; subst h
   have : signN l ≤ 2 := by unfold signN; split <;> (try split) <;> omega
   simp
   omega
  ·unfold quotedL at h
   split at h
   ·rw [Option.bind_eq_some_iff] at h
    obtain ⟨y, hy, h⟩ := h
    split at h
    ·injection h with h; subst h; assumption
    ·cases h
   ·cases h
theorem quotedL_len {l : List UInt8} {x : List UInt8 × Nat} (h : quotedL l = some x) : x.1.length ≤ 1024 := by
 unfold quotedL at h
 split at h
 ·rw [Option.bind_eq_some_iff] at h
  obtain ⟨y, hy, h⟩ := h
  split at h
  ·injection h with h; subst h; assumption
  ·cases h
 ·cases h
end
end PL
end Go.Proofs.Ytpodpmjlkbbkoaa.P
namespace Go.Proofs.Ytpodpmjlkbbkoaa.P
namespace PL
section
variable {l r : List UInt8}
theorem hd_brk {p : UInt8 → Bool} (hp : p 93 = false) : hd p (l ++ 93 :: r) = hd p l := by cases l <;> simp [hd, hp]
theorem run_brk {p : UInt8 → Bool} (hp : p 93 = false) : run p (l ++ 93 :: r) = run p l := by
 induction l with
 | nil => simp [run, List.takeWhile, hp]
 | cons c l ih =>
  unfold run at ih ⊢
  cases h : p c <;> simp [List.takeWhile, h, ih]
theorem nameN_brk : nameN (l ++ 93 :: r) = nameN l := by unfold nameN; rw [hd_brk (by decide), run_brk (by decide)]
theorem hd_drop_brk {p : UInt8 → Bool} (hp : p 93 = false) (n : Nat) (hn : n ≤ l.length) : hd p ((l ++ 93 :: r).drop n) = hd p (l.drop n) := by
 rw [List.drop_append_of_le_length hn, hd_brk hp]
theorem signN_brk : signN (l ++ 93 :: r) = signN l := by
 unfold signN
 rw [hd_brk (by decide)]
 cases l with
 | nil => simp [hd]
 | cons c l =>
  rw [hd_drop_brk (by decide) 1 (by simp)]
theorem colonL_brk : colonL (l ++ 93 :: r) = colonL l := by
 unfold colonL
 rw [hd_brk (by decide)]
 cases l with
 | nil => simp [hd]
 | cons c l => rw [hd_drop_brk (by decide) 1 (by simp)]
theorem drop_brk (n : Nat) (hn : n ≤ l.length) : (l ++ 93 :: r).drop n = l.drop n ++ 93 :: r := List.drop_append_of_le_length hn
theorem take_brk (n : Nat) (hn : n ≤ l.length) : (l ++ 93 :: r).take n = l.take n := List.take_append_of_le_length hn
theorem symN_brk (f : Nat) : symN f (l ++ 93 :: r) = symN f l := by
 induction f generalizing l with
 | zero => rfl
 | succ f ih =>
  unfold symN
  rw [colonL_brk]
  split
  ·rename_i h
   have h1 := colonL_len h
   have h2 := nameN_le (l.drop 1)
   simp only [List.length_drop] at h2
   rw [drop_brk 1 h1, nameN_brk, drop_brk _ (by omega), ih]
  ·rfl
theorem symE_brk : symE (l ++ 93 :: r) = symE l := by
 unfold symE
 rw [nameN_brk, drop_brk _ (nameN_le l), symN_brk]
 congr 1
 exact symN_fuel _ _ (by simp; omega) _ (by simp)
theorem quoLL_brk {x : List UInt8 × Nat} (h : quoLL l = some x) : quoLL (l ++ 93 :: r) = some x := by
 induction hn : l.length using Nat.strongRecOn generalizing l x with
 | ind n ih =>
  cases l with
  | nil => simp [quoLL] at h
  | cons c l =>
   by_cases hc : c = 39
   ·subst hc
    cases l with
    | nil => simpa [quoLL] using h
    | cons d l =>
     by_cases hd : d = 39
     ·subst hd
      simp only [List.cons_append]
      rw [quoLL_two, Option.map_eq_some_iff] at h ⊢
      obtain ⟨y, hy, rfl⟩ := h
      exact ⟨y, ih l.length (by simp at hn; omega) hy rfl, rfl⟩
     ·simpa [quoLL, hd] using h
   ·simp only [List.cons_append]
    rw [quoLL_ne hc, Option.map_eq_some_iff] at h ⊢
    obtain ⟨y, hy, rfl⟩ := h
    exact ⟨y, ih l.length (by simp at hn; omega) hy rfl, rfl⟩
theorem quotedL_brk {x : List UInt8 × Nat} (h : quotedL l = some x) : quotedL (l ++ 93 :: r) = some x := by
 unfold quotedL at h ⊢
 rw [hd_brk (by decide)]
 split at h
 ·rename_i h1
  rw [if_pos h1]
  rw [Option.bind_eq_some_iff] at h ⊢
  obtain ⟨y, hy, h⟩ := h
  refine ⟨y, ?_, h⟩
  cases l with
  | nil => simp [hd] at h1
  | cons c l => rw [drop_brk 1 (by simp)]; exact quoLL_brk hy
 ·cases h
theorem symbolL_brk {x : List UInt8 × Nat} (h : symbolL l = some x) : symbolL (l ++ 93 :: r) = some x := by
 unfold symbolL at h ⊢
 rw [hd_brk (by decide), hd_brk (by decide), symE_brk, signN_brk, take_brk _ (symE_le l), take_brk _ (signN_le l)]
 split at h
 ·rename_i h1; rw [if_pos h1]; exact h
 ·rename_i h1
  rw [if_neg h1]
  split at h
  ·rename_i h2; rw [if_pos h2]; exact h
  ·rename_i h2; rw [if_neg h2]; exact quotedL_brk h
theorem wordL_brk {ok : List UInt8 → Bool} {x : Nat × List UInt8 × Nat} (h : wordL ok l = some x) : wordL ok (l ++ 93 :: r) = some x := by
 cases l with
 | nil => simp [wordL] at h
 | cons c l =>
  have e1 : colonL ((c :: l ++ 93 :: r).drop (nameN (c :: l ++ 93 :: r))) = colonL ((c :: l).drop (nameN (c :: l))) := by
   rw [nameN_brk, drop_brk _ (nameN_le _), colonL_brk]
  have e2 : run digC (c :: l ++ 93 :: r) = run digC (c :: l) := run_brk (by decide)
  have e3 : (c :: l ++ 93 :: r).take (run digC (c :: l)) = (c :: l).take (run digC (c :: l)) := take_brk _ (run_le _ _)
  have e4 : (c :: l ++ 93 :: r).take (nameN (c :: l)) = (c :: l).take (nameN (c :: l)) := take_brk _ (nameN_le _)
  have e5 : (c :: l ++ 93 :: r).take (signN (c :: l)) = (c :: l).take (signN (c :: l)) := take_brk _ (signN_le _)
  have e6 : ∀ p : UInt8 → Bool, p 93 = false → hd p (l ++ 93 :: r) = hd p l := fun p hp => hd_brk hp
  have en : nameN (c :: l ++ 93 :: r) = nameN (c :: l) := nameN_brk
  have es : signN (c :: l ++ 93 :: r) = signN (c :: l) := signN_brk
  simp only [List.cons_append] at e1 e2 e3 e4 e5 en es
  simp only [List.cons_append]
  rw [wordL_cons] at h ⊢
  rw [e1, e2, e3, en, e4, es, e5, e6 _ (by decide), e6 _ (by decide)]
  split at h
  ·rename_i h1
   rw [if_pos h1]
   split at h
   ·rename_i h2
    rw [if_pos h2, ← h]
    congr 3
    have : nameN (c :: l) + 1 ≤ (c :: l).length := by
     have := colonL_len h2
     simp only [List.length_drop] at this
     omega
    exact take_brk (l := c :: l) _ this
   ·rename_i h2
    rw [if_neg h2, ← h]
  rename_i h1
  rw [if_neg h1]
  split at h
  ·rename_i h2; rw [if_pos h2, ← h]
  rename_i h2
  rw [if_neg h2]
  split at h
  ·rename_i h3
   rw [if_pos h3]
   simp only [Option.map_eq_some_iff] at h ⊢
   obtain ⟨y, hy, rfl⟩ := h
   exact ⟨y, quotedL_brk (l := c :: l) hy, rfl⟩
  rename_i h3
  rw [if_neg h3]
  split at h
  ·rename_i h4
   rw [if_pos h4]
   split at h
   ·rename_i h5
    rw [if_pos h5, ← h]
    cases l with
    | nil => simp [hd] at h5
    | cons d l => simp
   ·rename_i h5
    rw [if_neg h5]
    simp only [Option.map_eq_some_iff] at h ⊢
    obtain ⟨y, hy, rfl⟩ := h
    exact ⟨y, symbolL_brk hy, rfl⟩
  rename_i h4
  rw [if_neg h4]
  split at h
  ·rename_i h5
   rw [if_pos h5]
   split at h
   ·rename_i h6
    rw [if_pos h6, ← h]
    cases l with
    | nil => simp [hd] at h6
    | cons d l => simp
   ·rename_i h6
    rw [if_neg h6, ← h]
    simp
  rename_i h5
  rw [if_neg h5]
  split at h
  ·rename_i h6
   rw [if_pos h6, ← h]
  rename_i h6
  rw [if_neg h6, ← h]
  split <;> simp
end
section
variable {ok : List UInt8 → Bool}
theorem idxOf_brk {r l : List UInt8} {k : Nat} (h : r.idxOf? 34 = some k) : (r ++ 93 :: l).idxOf? 34 = some k := by
 rw [List.idxOf?, List.findIdx?_append, ← List.idxOf?, h]
 rfl
theorem Rd.brk {a b : List UInt8} {o : Nat} {ts : List Tk} (h : Rd ok a o ts) : PL.read ok (a ++ 93 :: b) o = (PL.read ok (93 :: b) (o + a.length)).map (fun us => ts.dropLast ++ us) := by
 induction h with
 | nil o =>
  rw [List.nil_append]
  show _ = (PL.read ok (93 :: b) (o + 0)).map _
  rw [Nat.add_zero]
  cases PL.read ok (93 :: b) o <;> rfl
 | blank h k ih =>
  rw [List.cons_append, read_cons, if_pos h, ih, List.length_cons]
  congr 2
  omega
 | @note c r o k ts hb hc hk h ih =>
  have hlt := idxOf_lt hk
  rw [List.cons_append, read_cons, if_neg (by simp [hb]), if_pos hc, idxOf_brk hk]
  simp only
  rw [List.drop_append_of_le_length (by omega), ih]
  congr 2
  simp
  omega
 | @word c r o x ts hb hc hx h ih =>
  have h1 := wordL_le hx
  have h2 := wordL_brk (r := b) hx
  have h3 := h.ne
  rw [List.cons_append] at h2
  rw [List.cons_append, read_cons, if_neg (by simp [hb]), if_neg hc, h2]
  simp only
  rw [← List.cons_append, List.drop_append_of_le_length h1.2.1, ih]
  have e : o + x.2.2 + ((c :: r).drop x.2.2).length = o + (c :: r).length := by
   rw [List.length_drop]
   have := h1.2.1
   omega
  rw [e]
  cases PL.read ok (93 :: b) (o + (c :: r).length) with
  | error _ => rfl
  | ok us =>
   simp only [Except.map]
   cases ts with
   | nil => exact absurd rfl h3
   | cons t ts => simp
theorem word_open (r : List UInt8) : wordL ok (91 :: r) = some (10, [91], 1) := by
 rw [wordL_cons, if_neg (by decide), if_neg (by decide), if_neg (by decide), if_neg (by decide), if_neg (by decide), if_neg (by decide)]
 rfl
theorem word_close (r : List UInt8) : wordL ok (93 :: r) = some (11, [93], 1) := by
 rw [wordL_cons, if_neg (by decide), if_neg (by decide), if_neg (by decide), if_neg (by decide), if_neg (by decide), if_neg (by decide)]
 rfl
def up (t : Tk) : Tk := ⟨t.kind, t.text, t.place + 1⟩
theorem read_within {l : List UInt8} {ts : List Tk} (h : Rd ok l 0 ts) : PL.read ok (91 :: (l ++ [93])) 0 = .ok (⟨10, [91], 0⟩ :: ((ts.map up).dropLast ++ [⟨11, [93], l.length + 1⟩, ⟨0, [], l.length + 2⟩])) := by
 have h1 : PL.read ok l (0 + 1) = .ok (ts.map up) := by
  rw [read_shift, h.read]
  rfl
 have h2 := Rd.brk (b := []) (Rd.of_read h1)
 have h3 : PL.read ok [93] (0 + 1 + l.length) = .ok [⟨11, [93], l.length + 1⟩, ⟨0, [], l.length + 2⟩] := by
  rw [read_cons, if_neg (by decide), if_neg (by decide), word_close]
  simp only [List.drop_succ_cons, List.drop_zero, read_nil, Except.map]
  rw [show 0 + 1 + l.length = l.length + 1 by omega]
 rw [h3] at h2
 rw [read_cons, if_neg (by decide), if_neg (by decide), word_open]
 simp only [List.drop_succ_cons, List.drop_zero]
 rw [h2]
 rfl
end
end PL
end Go.Proofs.Ytpodpmjlkbbkoaa.P
