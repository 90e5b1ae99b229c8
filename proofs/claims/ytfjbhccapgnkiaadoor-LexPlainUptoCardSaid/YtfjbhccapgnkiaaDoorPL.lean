/-
The words of a list of bytes, in plain Lean: what a word is; reading; two sources, a cut, places, words written and read again.
-/
import Derived.KernelRfl
namespace Go.Proofs.YtfjbhccapgnkiaaDoor.P
namespace PL
set_option linter.unusedVariables false
set_option linter.unusedSimpArgs false

def letC (c : UInt8) : Bool := (97 ≤ c && c ≤ 122) || (65 ≤ c && c ≤ 90)
def digC (c : UInt8) : Bool := 48 ≤ c && c ≤ 57
def worC (c : UInt8) : Bool := letC c || digC c || c == 95
def sigC (c : UInt8) : Bool := [43, 45, 42, 47, 92, 60, 62, 61, 126, 44, 64, 37, 38, 63].contains c
def blaC (c : UInt8) : Bool := c == 32 || c == 9 || c == 10 || c == 13
def oneL : List UInt8 := [40, 41, 91, 93, 124, 94, 46, 59]

/-- How many bytes of a kind stand ahead. -/
def run (p : UInt8 → Bool) (l : List UInt8) : Nat := (l.takeWhile p).length
def hd (p : UInt8 → Bool) (l : List UInt8) : Bool := match l with
  | [] => false
  | c :: _ => p c
def nameN (l : List UInt8) : Nat := if hd letC l then run worC l else 0
def signN (l : List UInt8) : Nat := if hd sigC l then (if hd sigC (l.drop 1) then 2 else 1) else 0
def colonL (l : List UInt8) : Bool := hd (· == 58) l && !hd (· == 61) (l.drop 1)
def symN : Nat → List UInt8 → Nat
  | 0, _ => 0
  | f + 1, l => if colonL l then 1 + nameN (l.drop 1) + symN f (l.drop (1 + nameN (l.drop 1))) else 0
def quoLL : List UInt8 → Option (List UInt8 × Nat)
  | [] => none
  | c :: l => if c = 39 then (match l with
      | [] => some ([], 1)
      | d :: r => if d = 39 then (quoLL r).map (fun x => (39 :: x.1, x.2 + 2)) else some ([], 1))
    else (quoLL l).map (fun x => (c :: x.1, x.2 + 1))
def quotedL (l : List UInt8) : Option (List UInt8 × Nat) := if hd (· == 39) l then (quoLL (l.drop 1)).bind (fun x => if x.1.length ≤ 1024 then some (x.1, x.2 + 1) else none) else none
def symE (l : List UInt8) : Nat := nameN l + symN l.length (l.drop (nameN l))
def symbolL (l : List UInt8) : Option (List UInt8 × Nat) :=
  if hd letC l then (if symE l ≤ 1024 then some (l.take (symE l), symE l) else none)
  else if hd sigC l then some (l.take (signN l), signN l)
  else quotedL l
structure Tk where
  kind : Nat
  text : List UInt8
  place : Nat
def wordL (ok : List UInt8 → Bool) (l : List UInt8) : Option (Nat × List UInt8 × Nat) := match l with
  | [] => none
  | c :: r =>
    if letC c then (if colonL (l.drop (nameN l)) then some (2, l.take (nameN l + 1), nameN l + 1) else some (1, l.take (nameN l), nameN l))
    else if digC c then (if ok (l.take (run digC l)) then some (4, l.take (run digC l), run digC l) else none)
    else if c = 39 then (quotedL l).map (fun x => (5, x.1, x.2))
    else if c = 35 then (if hd (· == 40) r then some (17, l.take 2, 2) else (symbolL r).map (fun x => (6, x.1, x.2 + 1)))
    else if c = 58 then (if hd (· == 61) r then some (7, l.take 2, 2) else some (16, l.take 1, 1))
    else if sigC c then some (3, l.take (signN l), signN l)
    else match oneL.idxOf? c with
      | some p => some (8 + p, l.take 1, 1)
      | none => none

theorem wordL_cons (ok : List UInt8 → Bool) (c : UInt8) (r : List UInt8) : wordL ok (c :: r) = (
    if letC c then (if colonL ((c :: r).drop (nameN (c :: r))) then some (2, (c :: r).take (nameN (c :: r) + 1), nameN (c :: r) + 1) else some (1, (c :: r).take (nameN (c :: r)), nameN (c :: r)))
    else if digC c then (if ok ((c :: r).take (run digC (c :: r))) then some (4, (c :: r).take (run digC (c :: r)), run digC (c :: r)) else none)
    else if c = 39 then (quotedL (c :: r)).map (fun x => (5, x.1, x.2))
    else if c = 35 then (if hd (· == 40) r then some (17, (c :: r).take 2, 2) else (symbolL r).map (fun x => (6, x.1, x.2 + 1)))
    else if c = 58 then (if hd (· == 61) r then some (7, (c :: r).take 2, 2) else some (16, (c :: r).take 1, 1))
    else if sigC c then some (3, (c :: r).take (signN (c :: r)), signN (c :: r))
    else match oneL.idxOf? c with
      | some p => some (8 + p, (c :: r).take 1, 1)
      | none => none) := rfl

theorem quoLL_ne {c : UInt8} (hc : ¬ c = 39) (l : List UInt8) : quoLL (c :: l) = (quoLL l).map (fun x => (c :: x.1, x.2 + 1)) := by rw [quoLL.eq_def]; simp only [hc, if_false]
theorem quoLL_two (r : List UInt8) : quoLL (39 :: 39 :: r) = (quoLL r).map (fun x => (39 :: x.1, x.2 + 2)) := by rw [quoLL.eq_def]; simp
theorem quoLL_end {l : List UInt8} (h : hd (· == 39) l = false) : quoLL (39 :: l) = some ([], 1) := by
  cases l with
  | nil => rw [quoLL.eq_def]; simp
  | cons d r => 
    have : ¬ d = 39 := by simpa [hd] using h
    rw [quoLL.eq_def]; simp [this]

/-! ### a blank behind -/
section
variable {l r : List UInt8}
theorem hd_blank {p : UInt8 → Bool} (hp : p 32 = false) : hd p (l ++ 32 :: r) = hd p l := by cases l <;> simp [hd, hp]
theorem run_blank {p : UInt8 → Bool} (hp : p 32 = false) : run p (l ++ 32 :: r) = run p l := by
  induction l with
  | nil => simp [run, List.takeWhile, hp]
  | cons c l ih => 
    unfold run at ih ⊢
    cases h : p c <;> simp [List.takeWhile, h, ih]
theorem run_le (p : UInt8 → Bool) (l : List UInt8) : run p l ≤ l.length := (List.takeWhile_sublist p).length_le
theorem nameN_le (l : List UInt8) : nameN l ≤ l.length := by unfold nameN; split; exact run_le _ _; exact Nat.zero_le _
theorem letC_worC {c : UInt8} (h : letC c = true) : worC c = true := by simp [worC, h]
theorem nameN_pos (h : hd letC l = true) : 0 < nameN l := by
  unfold nameN
  rw [if_pos h]
  cases l with
  | nil => simp [hd] at h
  | cons c l => simp [hd] at h; simp [run, List.takeWhile, letC_worC h]
theorem nameN_blank : nameN (l ++ 32 :: r) = nameN l := by unfold nameN; rw [hd_blank (by decide), run_blank (by decide)]
theorem hd_drop_blank {p : UInt8 → Bool} (hp : p 32 = false) (n : Nat) (hn : n ≤ l.length) : hd p ((l ++ 32 :: r).drop n) = hd p (l.drop n) := by
  rw [List.drop_append_of_le_length hn, hd_blank hp]
theorem signN_blank : signN (l ++ 32 :: r) = signN l := by
  unfold signN
  rw [hd_blank (by decide)]
  cases l with
  | nil => simp [hd]
  | cons c l => 
    rw [hd_drop_blank (by decide) 1 (by simp)]
theorem signN_le (l : List UInt8) : signN l ≤ l.length := by
  unfold signN
  split
  · rename_i h
    cases l with
    | nil => simp [hd] at h
    | cons c l =>
      split
      · rename_i h2
        cases l with
        | nil => simp [hd] at h2
        | cons d l => simp
      · simp
  · simp
theorem colonL_blank : colonL (l ++ 32 :: r) = colonL l := by
  unfold colonL
  rw [hd_blank (by decide)]
  cases l with
  | nil => simp [hd]
  | cons c l => rw [hd_drop_blank (by decide) 1 (by simp)]
theorem colonL_len (h : colonL l = true) : 1 ≤ l.length := by
  cases l with
  | nil => simp [colonL, hd] at h
  | cons c l => simp
theorem drop_blank (n : Nat) (hn : n ≤ l.length) : (l ++ 32 :: r).drop n = l.drop n ++ 32 :: r := List.drop_append_of_le_length hn
theorem take_blank (n : Nat) (hn : n ≤ l.length) : (l ++ 32 :: r).take n = l.take n := List.take_append_of_le_length hn
theorem symN_le (f : Nat) (l : List UInt8) : symN f l ≤ l.length := by
  induction f generalizing l with
  | zero => simp [symN]
  | succ f ih =>
    unfold symN
    split
    · rename_i h
      have h1 := colonL_len h
      have h2 := nameN_le (l.drop 1)
      have h3 := ih (l.drop (1 + nameN (l.drop 1)))
      simp only [List.length_drop] at h2 h3
      omega
    · simp
/-- More fuel changes nothing. -/
theorem symN_fuel (f : Nat) (l : List UInt8) (hf : l.length ≤ f) (g : Nat) (hg : l.length ≤ g) : symN f l = symN g l := by
  induction f generalizing l g with
  | zero =>
    have : l = [] := List.length_eq_zero_iff.1 (by omega)
    subst this
    cases g <;> simp [symN, colonL, hd]
  | succ f ih =>
    cases g with
    | zero =>
      have : l = [] := List.length_eq_zero_iff.1 (by omega)
      subst this
      simp [symN, colonL, hd]
    | succ g =>
      unfold symN
      split
      · rename_i h
        have h1 := colonL_len h
        rw [ih (l.drop (1 + nameN (l.drop 1))) (by simp; omega) g (by simp; omega)]
      · rfl
theorem symN_blank (f : Nat) : symN f (l ++ 32 :: r) = symN f l := by
  induction f generalizing l with
  | zero => rfl
  | succ f ih =>
    unfold symN
    rw [colonL_blank]
    split
    · rename_i h
      have h1 := colonL_len h
      have h2 := nameN_le (l.drop 1)
      simp only [List.length_drop] at h2
      rw [drop_blank 1 h1, nameN_blank, drop_blank _ (by omega), ih]
    · rfl
theorem symE_le (l : List UInt8) : symE l ≤ l.length := by
  unfold symE
  have h1 := nameN_le l
  have h2 := symN_le l.length (l.drop (nameN l))
  simp only [List.length_drop] at h2
  omega
theorem symE_blank : symE (l ++ 32 :: r) = symE l := by
  unfold symE
  rw [nameN_blank, drop_blank _ (nameN_le l), symN_blank]
  congr 1
  exact symN_fuel _ _ (by simp; omega) _ (by simp)
theorem quoLL_blank {x : List UInt8 × Nat} (h : quoLL l = some x) : quoLL (l ++ 32 :: r) = some x := by
  induction hn : l.length using Nat.strongRecOn generalizing l x with
  | ind n ih =>
    cases l with
    | nil => simp [quoLL] at h
    | cons c l =>
      by_cases hc : c = 39
      · subst hc
        cases l with
        | nil => simpa [quoLL] using h
        | cons d l =>
          by_cases hd : d = 39
          · subst hd
            simp only [List.cons_append]
            rw [quoLL_two, Option.map_eq_some_iff] at h ⊢
            obtain ⟨y, hy, rfl⟩ := h
            exact ⟨y, ih l.length (by simp at hn; omega) hy rfl, rfl⟩
          · simpa [quoLL, hd] using h
      · simp only [List.cons_append]
        rw [quoLL_ne hc, Option.map_eq_some_iff] at h ⊢
        obtain ⟨y, hy, rfl⟩ := h
        exact ⟨y, ih l.length (by simp at hn; omega) hy rfl, rfl⟩
theorem quotedL_blank {x : List UInt8 × Nat} (h : quotedL l = some x) : quotedL (l ++ 32 :: r) = some x := by
  unfold quotedL at h ⊢
  rw [hd_blank (by decide)]
  split at h
  · rename_i h1
    rw [if_pos h1]
    rw [Option.bind_eq_some_iff] at h ⊢
    obtain ⟨y, hy, h⟩ := h
    refine ⟨y, ?_, h⟩
    cases l with
    | nil => simp [hd] at h1
    | cons c l => rw [drop_blank 1 (by simp)]; exact quoLL_blank hy
  · cases h
theorem symbolL_blank {x : List UInt8 × Nat} (h : symbolL l = some x) : symbolL (l ++ 32 :: r) = some x := by
  unfold symbolL at h ⊢
  rw [hd_blank (by decide), hd_blank (by decide), symE_blank, signN_blank, take_blank _ (symE_le l), take_blank _ (signN_le l)]
  split at h
  · rename_i h1; rw [if_pos h1]; exact h
  · rename_i h1
    rw [if_neg h1]
    split at h
    · rename_i h2; rw [if_pos h2]; exact h
    · rename_i h2; rw [if_neg h2]; exact quotedL_blank h
theorem wordL_blank {ok : List UInt8 → Bool} {x : Nat × List UInt8 × Nat} (h : wordL ok l = some x) : wordL ok (l ++ 32 :: r) = some x := by
  cases l with
  | nil => simp [wordL] at h
  | cons c l =>
    have e1 : colonL ((c :: l ++ 32 :: r).drop (nameN (c :: l ++ 32 :: r))) = colonL ((c :: l).drop (nameN (c :: l))) := by
      rw [nameN_blank, drop_blank _ (nameN_le _), colonL_blank]
    have e2 : run digC (c :: l ++ 32 :: r) = run digC (c :: l) := run_blank (by decide)
    have e3 : (c :: l ++ 32 :: r).take (run digC (c :: l)) = (c :: l).take (run digC (c :: l)) := take_blank _ (run_le _ _)
    have e4 : (c :: l ++ 32 :: r).take (nameN (c :: l)) = (c :: l).take (nameN (c :: l)) := take_blank _ (nameN_le _)
    have e5 : (c :: l ++ 32 :: r).take (signN (c :: l)) = (c :: l).take (signN (c :: l)) := take_blank _ (signN_le _)
    have e6 : ∀ p : UInt8 → Bool, p 32 = false → hd p (l ++ 32 :: r) = hd p l := fun p hp => hd_blank hp
    have en : nameN (c :: l ++ 32 :: r) = nameN (c :: l) := nameN_blank
    have es : signN (c :: l ++ 32 :: r) = signN (c :: l) := signN_blank
    simp only [List.cons_append] at e1 e2 e3 e4 e5 en es
    simp only [List.cons_append]
    rw [wordL_cons] at h ⊢
    rw [e1, e2, e3, en, e4, es, e5, e6 _ (by decide), e6 _ (by decide)]
    split at h
    · rename_i h1
      rw [if_pos h1]
      split at h
      · rename_i h2
        rw [if_pos h2, ← h]
        congr 3
        have : nameN (c :: l) + 1 ≤ (c :: l).length := by
          have := colonL_len h2
          simp only [List.length_drop] at this
          omega
        exact take_blank (l := c :: l) _ this
      · rename_i h2
        rw [if_neg h2, ← h]
    rename_i h1
    rw [if_neg h1]
    split at h
    · rename_i h2; rw [if_pos h2, ← h]
    rename_i h2
    rw [if_neg h2]
    split at h
    · rename_i h3
      rw [if_pos h3]
      simp only [Option.map_eq_some_iff] at h ⊢
      obtain ⟨y, hy, rfl⟩ := h
      exact ⟨y, quotedL_blank (l := c :: l) hy, rfl⟩
    rename_i h3
    rw [if_neg h3]
    split at h
    · rename_i h4
      rw [if_pos h4]
      split at h
      · rename_i h5
        rw [if_pos h5, ← h]
        cases l with
        | nil => simp [hd] at h5
        | cons d l => simp
      · rename_i h5
        rw [if_neg h5]
        simp only [Option.map_eq_some_iff] at h ⊢
        obtain ⟨y, hy, rfl⟩ := h
        exact ⟨y, symbolL_blank hy, rfl⟩
    rename_i h4
    rw [if_neg h4]
    split at h
    · rename_i h5
      rw [if_pos h5]
      split at h
      · rename_i h6
        rw [if_pos h6, ← h]
        cases l with
        | nil => simp [hd] at h6
        | cons d l => simp
      · rename_i h6
        rw [if_neg h6, ← h]
        simp
    rename_i h5
    rw [if_neg h5]
    split at h
    · rename_i h6
      rw [if_pos h6, ← h]
    rename_i h6
    rw [if_neg h6, ← h]
    split <;> simp
end
section
variable {l r : List UInt8}
theorem run_cut (p : UInt8 → Bool) (l : List UInt8) {m : Nat} (h : run p l ≤ m) : run p (l.take m) = run p l := by
  induction l generalizing m with
  | nil => simp [run]
  | cons c l ih =>
    unfold run at ih h ⊢
    cases m with
    | zero => 
      cases hc : p c
      · simp [List.takeWhile, hc]
      · simp [List.takeWhile, hc] at h
    | succ m =>
      cases hc : p c
      · simp [List.takeWhile, hc]
      · simp only [List.take_succ_cons, List.takeWhile, hc, List.length_cons] at h ⊢
        rw [ih (by omega)]
theorem hd_cut (p : UInt8 → Bool) (l : List UInt8) {m : Nat} (h : 0 < m) : hd p (l.take m) = hd p l := by
  cases m with
  | zero => omega
  | succ m => cases l <;> simp [hd]
theorem hd_cut_false (p : UInt8 → Bool) (l : List UInt8) (m : Nat) (h : hd p l = false) : hd p (l.take m) = false := by
  cases m with
  | zero => simp [hd]
  | succ m => cases l <;> simp_all [hd]
theorem run_pos {p : UInt8 → Bool} (h : hd p l = true) : 0 < run p l := by
  cases l with
  | nil => simp [hd] at h
  | cons c l => simp [hd] at h; simp [run, List.takeWhile, h]
theorem nameN_cut {m : Nat} (h : nameN l ≤ m) : nameN (l.take m) = nameN l := by
  unfold nameN at h ⊢
  split at h
  · rename_i h1
    have : 0 < run worC l := by have := nameN_pos h1; unfold nameN at this; rwa [if_pos h1] at this
    rw [hd_cut _ _ (by omega), if_pos h1, if_pos h1, run_cut _ _ h]
  · rename_i h1
    rw [if_neg (by rw [hd_cut_false _ _ _ (by simpa using h1)]; simp)]
    rw [if_neg h1]
theorem signN_cut {m : Nat} (h : signN l ≤ m) : signN (l.take m) = signN l := by
  unfold signN at h ⊢
  split at h
  · rename_i h1
    have hm : 0 < m := by split at h <;> omega
    rw [hd_cut _ _ hm, if_pos h1, if_pos h1, List.drop_take]
    split at h
    · rename_i h2
      rw [hd_cut _ _ (by omega), if_pos h2]
    · rename_i h2
      rw [if_neg h2, if_neg (by rw [hd_cut_false _ _ _ (by simpa using h2)]; simp)]
  · rename_i h1
    rw [if_neg h1, if_neg (by rw [hd_cut_false _ _ _ (by simpa using h1)]; simp)]
/-- The cut does not fall between a colon and an =. -/
def Whole (l : List UInt8) (m : Nat) : Prop := ¬ (m = 1 ∧ hd (· == 58) l = true ∧ hd (· == 61) (l.drop 1) = true)
theorem colonL_cut {m : Nat} (h : colonL l = true → 0 < m) (hw : Whole l m) : colonL (l.take m) = colonL l := by
  unfold colonL at h ⊢
  rcases Nat.lt_or_ge 1 m with h1 | h1
  · rw [hd_cut _ _ (by omega), List.drop_take, hd_cut _ _ (by omega)]
  · rcases Nat.eq_zero_or_pos m with h2 | h2
    · subst h2
      cases hc : (hd (· == 58) l && !hd (· == 61) (l.drop 1))
      · simp [hd]
      · exact absurd (h hc) (by omega)
    · have h3 : m = 1 := by omega
      subst h3
      rw [hd_cut _ _ (by omega), List.drop_take]
      have e : hd (· == (61 : UInt8)) ((l.drop 1).take (1 - 1)) = false := by simp [hd]
      rw [e]
      cases h4 : hd (· == 58) l
      · simp
      · cases h5 : hd (· == 61) (l.drop 1)
        · simp
        · exact absurd ⟨rfl, h4, h5⟩ hw
theorem Whole.zero : Whole l 0 := by unfold Whole; omega
theorem symN_cut (f : Nat) {m : Nat} (h : symN f l ≤ m) (hw : Whole (l.drop (symN f l)) (m - symN f l)) (hf : l.length ≤ f) : symN f (l.take m) = symN f l := by
  induction f generalizing l m with
  | zero => rfl
  | succ f ih =>
    unfold symN at h hw ⊢
    split at h
    · rename_i h1
      have hm : 0 < m := by omega
      have hm1 : colonL (l.take m) = colonL l := by
        refine colonL_cut (fun _ => hm) ?_
        rintro ⟨-, -, h61⟩
        unfold colonL at h1
        rw [h61] at h1
        simp at h1
      have h1l := colonL_len h1
      rw [hm1, if_pos h1, if_pos h1, List.drop_take, nameN_cut (by omega), List.drop_take]
      congr 1
      have e1 : (l.drop (1 + nameN (l.drop 1))).length ≤ f := by simp; omega
      refine ih (by omega) ?_ e1
      rw [if_pos h1] at hw
      rw [List.drop_drop, ]
      have : m - (1 + nameN (List.drop 1 l) + symN f (List.drop (1 + nameN (List.drop 1 l)) l)) = m - (1 + nameN (List.drop 1 l)) - symN f (List.drop (1 + nameN (List.drop 1 l)) l) := by omega
      rw [this] at hw
      exact hw
    · rename_i h1
      rw [if_neg h1]
      rw [if_neg h1] at hw
      rw [if_neg]
      rw [colonL_cut (fun h => absurd h h1) (by simpa using hw)]
      exact h1
theorem symE_cut {m : Nat} (h : symE l ≤ m) (hw : Whole (l.drop (symE l)) (m - symE l)) : symE (l.take m) = symE l := by
  unfold symE at h hw ⊢
  have hn : nameN (l.take m) = nameN l := nameN_cut (by omega)
  rw [hn, List.drop_take]
  congr 1
  have e : symN (l.take m).length ((l.drop (nameN l)).take (m - nameN l)) = symN l.length ((l.drop (nameN l)).take (m - nameN l)) :=
    symN_fuel _ _ (by simp; omega) _ (by simp; omega)
  rw [e]
  refine symN_cut _ (by omega) ?_ (by simp)
  rw [List.drop_drop]
  have : m - (nameN l + symN l.length (l.drop (nameN l))) = m - nameN l - symN l.length (l.drop (nameN l)) := by omega
  rw [this] at hw
  exact hw
theorem quoLL_cut {x : List UInt8 × Nat} (h : quoLL l = some x) {m : Nat} (hm : x.2 ≤ m) : quoLL (l.take m) = some x := by
  induction hn : l.length using Nat.strongRecOn generalizing l x m with
  | ind n ih =>
    cases l with
    | nil => simp [quoLL] at h
    | cons c l =>
      by_cases hc : c = 39
      · subst hc
        cases hh : hd (· == 39) l
        · rw [quoLL_end hh] at h
          injection h with h
          subst h
          simp only at hm
          obtain ⟨m, rfl⟩ : ∃ k, m = k + 1 := ⟨m - 1, by omega⟩
          rw [List.take_succ_cons]
          exact quoLL_end (hd_cut_false _ _ _ hh)
        · cases l with
          | nil => simp [hd] at hh
          | cons d l =>
            obtain rfl : d = 39 := by simpa [hd] using hh
            rw [quoLL_two, Option.map_eq_some_iff] at h
            obtain ⟨y, hy, rfl⟩ := h
            simp only at hm
            obtain ⟨m, rfl⟩ : ∃ k, m = k + 2 := ⟨m - 2, by omega⟩
            have e : quoLL (l.take m) = some y := ih l.length (by simp at hn; omega) hy (by omega) rfl
            rw [List.take_succ_cons, List.take_succ_cons, quoLL_two, e]
            rfl
      · rw [quoLL_ne hc, Option.map_eq_some_iff] at h
        obtain ⟨y, hy, rfl⟩ := h
        simp only at hm
        obtain ⟨m, rfl⟩ : ∃ k, m = k + 1 := ⟨m - 1, by omega⟩
        have e : quoLL (l.take m) = some y := ih l.length (by simp at hn; omega) hy (by omega) rfl
        rw [List.take_succ_cons, quoLL_ne hc, e]
        rfl
theorem quoLL_le {x : List UInt8 × Nat} (h : quoLL l = some x) : 0 < x.2 ∧ x.2 ≤ l.length ∧ x.1.length < x.2 := by
  induction hn : l.length using Nat.strongRecOn generalizing l x with
  | ind n ih =>
    cases l with
    | nil => simp [quoLL] at h
    | cons c l =>
      by_cases hc : c = 39
      · subst hc
        cases hh : hd (· == 39) l
        · rw [quoLL_end hh] at h
          injection h with h
          subst h
          simp at hn ⊢
          omega
        · cases l with
          | nil => simp [hd] at hh
          | cons d l =>
            obtain rfl : d = 39 := by simpa [hd] using hh
            rw [quoLL_two, Option.map_eq_some_iff] at h
            obtain ⟨y, hy, rfl⟩ := h
            have := ih l.length (by simp at hn; omega) hy rfl
            simp at hn ⊢
            omega
      · rw [quoLL_ne hc, Option.map_eq_some_iff] at h
        obtain ⟨y, hy, rfl⟩ := h
        have := ih l.length (by simp at hn; omega) hy rfl
        simp at hn ⊢
        omega
theorem quotedL_cut {x : List UInt8 × Nat} (h : quotedL l = some x) {m : Nat} (hm : x.2 ≤ m) : quotedL (l.take m) = some x := by
  unfold quotedL at h ⊢
  split at h
  · rename_i h1
    rw [Option.bind_eq_some_iff] at h
    obtain ⟨y, hy, h⟩ := h
    split at h
    · rename_i h2
      injection h with h
      subst h
      simp only at hm
      rw [hd_cut _ _ (by omega), if_pos h1, List.drop_take, quoLL_cut hy (by omega)]
      simp [h2]
    · cases h
  · cases h
theorem quotedL_le {x : List UInt8 × Nat} (h : quotedL l = some x) : 0 < x.2 ∧ x.2 ≤ l.length := by
  unfold quotedL at h
  split at h
  · rename_i h1
    rw [Option.bind_eq_some_iff] at h
    obtain ⟨y, hy, h⟩ := h
    split at h
    · injection h with h
      subst h
      have := quoLL_le hy
      simp only [List.length_drop] at this ⊢
      omega
    · cases h
  · cases h
theorem symbolL_cut {x : List UInt8 × Nat} (h : symbolL l = some x) {m : Nat} (hm : x.2 ≤ m) (hw : Whole (l.drop x.2) (m - x.2)) : symbolL (l.take m) = some x := by
  unfold symbolL at h ⊢
  split at h
  · rename_i h1
    split at h
    · rename_i h2
      injection h with h
      subst h
      simp only at hm hw
      have h3 := nameN_pos h1
      have h4 : nameN l ≤ symE l := by unfold symE; omega
      rw [hd_cut _ _ (by omega), if_pos h1, symE_cut hm hw, if_pos h2, List.take_take, Nat.min_eq_left hm]
    · cases h
  · rename_i h1
    rw [if_neg (by rw [hd_cut_false _ _ _ (by simpa using h1)]; simp)]
    split at h
    · rename_i h2
      injection h with h
      subst h
      simp only at hm hw
      have : 0 < signN l := by unfold signN; rw [if_pos h2]; split <;> omega
      rw [hd_cut _ _ (by omega), if_pos h2, signN_cut hm, List.take_take, Nat.min_eq_left hm]
    · rename_i h2
      rw [if_neg (by rw [hd_cut_false _ _ _ (by simpa using h2)]; simp)]
      exact quotedL_cut h hm
theorem symbolL_le {x : List UInt8 × Nat} (h : symbolL l = some x) : 0 < x.2 ∧ x.2 ≤ l.length := by
  unfold symbolL at h
  split at h
  · rename_i h1
    split at h
    · injection h with h
      subst h
      have h3 := nameN_pos h1
      have h4 : nameN l ≤ symE l := by unfold symE; omega
      have h5 := symE_le l
      simp only
      omega
    · cases h
  · split at h
    · rename_i h2
      injection h with h
      subst h
      have : 0 < signN l := by unfold signN; rw [if_pos h2]; split <;> omega
      exact ⟨this, signN_le l⟩
    · exact quotedL_le h
theorem wordL_le {ok : List UInt8 → Bool} {x : Nat × List UInt8 × Nat} (h : wordL ok l = some x) : 0 < x.2.2 ∧ x.2.2 ≤ l.length ∧ (x.1 ≠ 5 → x.1 ≠ 6 → x.2.1 = l.take x.2.2) ∧ x.1 ≠ 0 := by
  cases l with
  | nil => simp [wordL] at h
  | cons c l =>
    rw [wordL_cons] at h
    split at h
    · rename_i h1
      have h3 : 0 < nameN (c :: l) := nameN_pos h1
      have h4 := nameN_le (c :: l)
      split at h
      · rename_i h2
        have h5 := colonL_len h2
        rw [List.length_drop] at h5
        injection h with h
        subst h
        exact ⟨Nat.succ_pos _, by show nameN (c :: l) + 1 ≤ _; omega, fun _ _ => rfl, by simp⟩
      · injection h with h
        subst h
        exact ⟨h3, h4, fun _ _ => rfl, by simp⟩
    split at h
    · rename_i h2
      split at h
      · injection h with h
        subst h
        exact ⟨run_pos (p := digC) h2, run_le _ _, fun _ _ => rfl, by simp⟩
      · cases h
    split at h
    · rename_i h3
      simp only [Option.map_eq_some_iff] at h
      obtain ⟨y, hy, rfl⟩ := h
      exact ⟨(quotedL_le hy).1, (quotedL_le hy).2, fun h => absurd rfl h, by simp⟩
    split at h
    · rename_i h4
      split at h
      · rename_i h5
        injection h with h
        subst h
        cases l with
        | nil => simp [hd] at h5
        | cons d l => exact ⟨by simp, by simp, fun _ _ => rfl, by simp⟩
      · simp only [Option.map_eq_some_iff] at h
        obtain ⟨y, hy, rfl⟩ := h
        have := symbolL_le hy
        exact ⟨Nat.succ_pos _, by simp; omega, fun _ h => absurd rfl h, by simp⟩
    split at h
    · rename_i h5
      split at h
      · rename_i h6
        injection h with h
        subst h
        cases l with
        | nil => simp [hd] at h6
        | cons d l => exact ⟨by simp, by simp, fun _ _ => rfl, by simp⟩
      · injection h with h
        subst h
        exact ⟨by simp, by simp, fun _ _ => rfl, by simp⟩
    split at h
    · rename_i h6
      injection h with h
      subst h
      have : hd sigC (c :: l) = true := h6
      have : 0 < signN (c :: l) := by unfold signN; rw [if_pos this]; split <;> omega
      exact ⟨this, signN_le _, fun _ _ => rfl, by simp⟩
    split at h
    · rename_i p hp
      injection h with h
      subst h
      exact ⟨by simp, by simp, fun _ _ => rfl, by simp⟩
    · cases h
theorem wordL_cut {ok : List UInt8 → Bool} {x : Nat × List UInt8 × Nat} (h : wordL ok l = some x) {m : Nat} (hm : x.2.2 ≤ m) (hw : Whole (l.drop x.2.2) (m - x.2.2)) : wordL ok (l.take m) = some x := by
  have hpos := (wordL_le h).1
  cases l with
  | nil => simp [wordL] at h
  | cons c l =>
    obtain ⟨m, rfl⟩ : ∃ k, m = k + 1 := ⟨m - 1, by omega⟩
    have et : (c :: l).take (m + 1) = c :: l.take m := List.take_succ_cons
    rw [et]
    rw [wordL_cons] at h ⊢
    rw [← et]
    split at h
    · rename_i h1
      rw [if_pos h1]
      have h3 : 0 < nameN (c :: l) := nameN_pos h1
      have h4 := nameN_le (c :: l)
      split at h
      · rename_i h2
        have h5 := colonL_len h2
        rw [List.length_drop] at h5
        injection h with h
        subst h
        simp only at hm hw
        rw [nameN_cut (by omega), List.drop_take, colonL_cut (fun _ => by omega), if_pos h2, List.take_take, Nat.min_eq_left hm]
        rintro ⟨-, -, h61⟩
        unfold colonL at h2
        rw [h61] at h2
        simp at h2
      · rename_i h2
        injection h with h
        subst h
        simp only at hm hw
        rw [nameN_cut (by omega), List.drop_take, colonL_cut (fun h => absurd h h2) hw, if_neg h2, List.take_take, Nat.min_eq_left hm]
    rename_i h1
    rw [if_neg h1]
    split at h
    · rename_i h2
      rw [if_pos h2]
      split at h
      · rename_i h3
        injection h with h
        subst h
        simp only at hm hw
        rw [run_cut _ _ hm, List.take_take, Nat.min_eq_left hm, if_pos h3]
      · cases h
    rename_i h2
    rw [if_neg h2]
    split at h
    · rename_i h3
      rw [if_pos h3]
      simp only [Option.map_eq_some_iff] at h ⊢
      obtain ⟨y, hy, rfl⟩ := h
      exact ⟨y, quotedL_cut hy hm, rfl⟩
    rename_i h3
    rw [if_neg h3]
    split at h
    · rename_i h4
      rw [if_pos h4]
      split at h
      · rename_i h5
        injection h with h
        subst h
        simp only at hm hw
        rw [hd_cut _ _ (by omega), if_pos h5, List.take_take, Nat.min_eq_left hm]
      · rename_i h5
        rw [if_neg (by rw [hd_cut_false _ _ _ (by simpa using h5)]; simp)]
        simp only [Option.map_eq_some_iff] at h ⊢
        obtain ⟨y, hy, rfl⟩ := h
        simp only at hm hw
        refine ⟨y, symbolL_cut hy (by omega) ?_, rfl⟩
        have e : m + 1 - (y.2 + 1) = m - y.2 := by omega
        rw [e] at hw
        exact hw
    rename_i h4
    rw [if_neg h4]
    split at h
    · rename_i h5
      rw [if_pos h5]
      split at h
      · rename_i h6
        injection h with h
        subst h
        simp only at hm hw
        rw [hd_cut _ _ (by omega), if_pos h6, List.take_take, Nat.min_eq_left hm]
      · rename_i h6
        rw [if_neg (by rw [hd_cut_false _ _ _ (by simpa using h6)]; simp)]
        injection h with h
        subst h
        simp only at hm hw
        rw [List.take_take, Nat.min_eq_left hm]
    rename_i h5
    rw [if_neg h5]
    split at h
    · rename_i h6
      rw [if_pos h6]
      injection h with h
      subst h
      simp only at hm hw
      rw [signN_cut hm, List.take_take, Nat.min_eq_left hm]
    rename_i h6
    rw [if_neg h6]
    split at h
    · rename_i p hp
      injection h with h
      subst h
      simp only at hm hw
      rw [List.take_take, Nat.min_eq_left hm]
    · cases h
end
/-- The words from a place on, or the place of what is none. -/
def readF (ok : List UInt8 → Bool) : Nat → List UInt8 → Nat → Except Nat (List Tk)
  | 0, _, o => .error o
  | f + 1, [], o => .ok [⟨0, [], o⟩]
  | f + 1, c :: r, o =>
    if blaC c then readF ok f r (o + 1)
    else if c = 34 then (match r.idxOf? 34 with
      | none => .error o
      | some k => readF ok f (r.drop (k + 1)) (o + k + 2))
    else match wordL ok (c :: r) with
      | none => .error o
      | some x => (readF ok f ((c :: r).drop x.2.2) (o + x.2.2)).map (fun ts => ⟨x.1, x.2.1, o⟩ :: ts)
theorem readF_fuel (ok : List UInt8 → Bool) (f : Nat) (l : List UInt8) (o : Nat) (hf : l.length < f) (g : Nat) (hg : l.length < g) : readF ok f l o = readF ok g l o := by
  induction f generalizing l o g with
  | zero => omega
  | succ f ih =>
    cases g with
    | zero => omega
    | succ g =>
      cases l with
      | nil => rfl
      | cons c r =>
        simp only [List.length_cons] at hf hg
        unfold readF
        rw [ih r (o + 1) (by omega) g (by omega)]
        cases hk : r.idxOf? 34 with
        | none =>
          cases hx : wordL ok (c :: r) with
          | none => rfl
          | some x =>
            have h1 := (wordL_le hx).1
            simp only
            rw [ih ((c :: r).drop x.2.2) (o + x.2.2) (by simp; omega) g (by simp; omega)]
        | some k =>
          simp only
          rw [ih (r.drop (k + 1)) (o + k + 2) (by simp; omega) g (by simp; omega)]
          cases hx : wordL ok (c :: r) with
          | none => rfl
          | some x =>
            have h1 := (wordL_le hx).1
            simp only
            rw [ih ((c :: r).drop x.2.2) (o + x.2.2) (by simp; omega) g (by simp; omega)]
def read (ok : List UInt8 → Bool) (l : List UInt8) (o : Nat) : Except Nat (List Tk) := readF ok (l.length + 1) l o
theorem read_fuel (ok : List UInt8 → Bool) (f : Nat) (l : List UInt8) (o : Nat) (hf : l.length < f) : readF ok f l o = read ok l o := readF_fuel ok f l o hf _ (Nat.lt_succ_self _)
theorem read_nil (ok : List UInt8 → Bool) (o : Nat) : read ok [] o = .ok [⟨0, [], o⟩] := rfl
theorem read_cons (ok : List UInt8 → Bool) (c : UInt8) (r : List UInt8) (o : Nat) : read ok (c :: r) o =
    if blaC c then read ok r (o + 1)
    else if c = 34 then (match r.idxOf? 34 with
      | none => .error o
      | some k => read ok (r.drop (k + 1)) (o + k + 2))
    else match wordL ok (c :: r) with
      | none => .error o
      | some x => (read ok ((c :: r).drop x.2.2) (o + x.2.2)).map (fun ts => ⟨x.1, x.2.1, o⟩ :: ts) := by
  unfold read
  simp only [List.length_cons]
  conv => lhs; unfold readF
  split
  · rfl
  split
  · split
    · rfl
    · rename_i k hk
      exact read_fuel ok _ _ _ (by simp; omega)
  · split
    · rfl
    · rename_i x hx
      have h1 := (wordL_le hx).1
      congr 1
      exact read_fuel ok _ _ _ (by simp; omega)
section
variable {ok : List UInt8 → Bool}
theorem map_ok {α β : Type} {e : Except Nat α} {f : α → β} {y : β} (h : e.map f = .ok y) : ∃ x, e = .ok x ∧ f x = y := by
  cases e with
  | error _ => cases h
  | ok x => exact ⟨x, rfl, by injection h⟩
theorem map_err {α β : Type} {e : Except Nat α} {f : α → β} {p : Nat} (h : e.map f = .error p) : e = .error p := by
  cases e with
  | error _ => injection h with h; rw [h]
  | ok x => cases h
/-- A way through a list that can be read. -/
inductive Rd (ok : List UInt8 → Bool) : List UInt8 → Nat → List Tk → Prop
  | nil (o : Nat) : Rd ok [] o [⟨0, [], o⟩]
  | blank {c : UInt8} {r : List UInt8} {o : Nat} {ts : List Tk} (h : blaC c = true) (k : Rd ok r (o + 1) ts) : Rd ok (c :: r) o ts
  | note {c : UInt8} {r : List UInt8} {o k : Nat} {ts : List Tk} (hb : blaC c = false) (hc : c = 34) (hk : r.idxOf? 34 = some k) (h : Rd ok (r.drop (k + 1)) (o + k + 2) ts) : Rd ok (c :: r) o ts
  | word {c : UInt8} {r : List UInt8} {o : Nat} {x : Nat × List UInt8 × Nat} {ts : List Tk} (hb : blaC c = false) (hc : ¬ c = 34) (hx : wordL ok (c :: r) = some x) (h : Rd ok ((c :: r).drop x.2.2) (o + x.2.2) ts) : Rd ok (c :: r) o (⟨x.1, x.2.1, o⟩ :: ts)
theorem Rd.of_read {l : List UInt8} {o : Nat} {ts : List Tk} (h : read ok l o = .ok ts) : Rd ok l o ts := by
  induction hn : l.length using Nat.strongRecOn generalizing l o ts with
  | ind n ih =>
    cases l with
    | nil => rw [read_nil] at h; injection h with h; subst h; exact .nil o
    | cons c r =>
      simp only [List.length_cons] at hn
      rw [read_cons] at h
      split at h
      · rename_i h1
        exact .blank h1 (ih _ (by omega) h rfl)
      rename_i h1
      split at h
      · rename_i h2
        split at h
        · cases h
        · rename_i k hk
          exact .note (by simpa using h1) h2 hk (ih _ (by simp; omega) h rfl)
      · rename_i h2
        split at h
        · cases h
        · rename_i x hx
          have := (wordL_le hx).1
          obtain ⟨ts', h3, rfl⟩ := map_ok h
          exact .word (by simpa using h1) h2 hx (ih _ (by simp; omega) h3 rfl)
theorem Rd.read {l : List UInt8} {o : Nat} {ts : List Tk} (h : Rd ok l o ts) : PL.read ok l o = .ok ts := by
  induction h with
  | nil o => rfl
  | blank h k ih => rw [read_cons, if_pos h, ih]
  | note hb hc hk h ih => rw [read_cons, if_neg (by simp [hb]), if_pos hc, hk]; exact ih
  | word hb hc hx h ih => rw [read_cons, if_neg (by simp [hb]), if_neg hc, hx]; simp only; rw [ih]; rfl
theorem Rd.ne {l : List UInt8} {o : Nat} {ts : List Tk} (h : Rd ok l o ts) : ts ≠ [] := by
  induction h with
  | nil o => simp
  | blank h k ih => exact ih
  | note hb hc hk h ih => exact ih
  | word hb hc hx h ih => simp

/-! ### two sources -/
theorem shift_word (f : Nat) (l : List UInt8) (o d : Nat) : readF ok f l (o + d) = match readF ok f l o with
    | .ok ts => .ok (ts.map fun t => ⟨t.kind, t.text, t.place + d⟩)
    | .error p => .error (p + d) := by
  induction f generalizing l o with
  | zero => simp [readF]
  | succ f ih =>
    cases l with
    | nil => simp [readF]
    | cons c r =>
      unfold readF
      split
      · rw [show o + d + 1 = o + 1 + d by omega, ih]
      split
      · cases hk : r.idxOf? 34 with
        | none => rfl
        | some k =>
          simp only
          rw [show o + d + k + 2 = o + k + 2 + d by omega, ih]
      · cases hx : wordL ok (c :: r) with
        | none => rfl
        | some x =>
          simp only
          rw [show o + d + x.2.2 = o + x.2.2 + d by omega, ih]
          cases readF ok f ((c :: r).drop x.2.2) (o + x.2.2) <;> rfl
theorem read_shift (l : List UInt8) (o d : Nat) : read ok l (o + d) = match read ok l o with
    | .ok ts => .ok (ts.map fun t => ⟨t.kind, t.text, t.place + d⟩)
    | .error p => .error (p + d) := shift_word _ l o d
theorem idxOf_blank {r l : List UInt8} {k : Nat} (h : r.idxOf? 34 = some k) : (r ++ 32 :: l).idxOf? 34 = some k := by
  rw [List.idxOf?, List.findIdx?_append, ← List.idxOf?, h]
  rfl
theorem idxOf_lt {r : List UInt8} {k : Nat} {c : UInt8} (h : r.idxOf? c = some k) : k < r.length := by
  unfold List.idxOf? at h
  exact (List.findIdx?_eq_some_iff_getElem.1 h).1
theorem Rd.two {a b : List UInt8} {o : Nat} {ts : List Tk} (h : Rd ok a o ts) : PL.read ok (a ++ 32 :: b) o = (PL.read ok b (o + a.length + 1)).map (fun us => ts.dropLast ++ us) := by
  induction h with
  | nil o =>
    rw [List.nil_append, read_cons, if_pos (by decide)]
    simp
    cases PL.read ok b (o + 1) <;> rfl
  | blank h k ih => 
    rw [List.cons_append, read_cons, if_pos h, ih, List.length_cons]
    congr 2
    omega
  | @note c r o k ts hb hc hk h ih =>
    have hlt := idxOf_lt hk
    rw [List.cons_append, read_cons, if_neg (by simp [hb]), if_pos hc, idxOf_blank hk]
    simp only
    rw [List.drop_append_of_le_length (by omega), ih]
    congr 2
    simp
    omega
  | @word c r o x ts hb hc hx h ih =>
    have h1 := wordL_le hx
    have h2 := wordL_blank (r := b) hx
    have h3 := h.ne
    rw [List.cons_append] at h2
    rw [List.cons_append, read_cons, if_neg (by simp [hb]), if_neg hc, h2]
    simp only
    rw [← List.cons_append, List.drop_append_of_le_length h1.2.1, ih]
    have e : o + x.2.2 + ((c :: r).drop x.2.2).length + 1 = o + (c :: r).length + 1 := by
      rw [List.length_drop]
      have := h1.2.1
      omega
    rw [e]
    cases PL.read ok b (o + (c :: r).length + 1) with
    | error _ => rfl
    | ok us =>
      simp only [Except.map]
      cases ts with
      | nil => exact absurd rfl h3
      | cons t ts => simp

/-! ### what stands ahead of a word -/
theorem Rd.place_ge {l : List UInt8} {o : Nat} {ts : List Tk} (h : Rd ok l o ts) : ∀ t ∈ ts, o ≤ t.place := by
  induction h with
  | nil o => simp
  | blank h k ih => intro t ht; have := ih t ht; omega
  | note hb hc hk h ih => intro t ht; have := ih t ht; omega
  | word hb hc hx h ih =>
    intro t ht
    rcases List.mem_cons.1 ht with rfl | ht
    · exact Nat.le_refl _
    · have := ih t ht; omega
theorem Rd.place_le {l : List UInt8} {o : Nat} {ts : List Tk} (h : Rd ok l o ts) : ∀ t ∈ ts, t.place ≤ o + l.length := by
  induction h with
  | nil o => simp
  | blank h k ih => intro t ht; have := ih t ht; simp at *; omega
  | note hb hc hk h ih => intro t ht; have := ih t ht; have := idxOf_lt hk; simp at *; omega
  | word hb hc hx h ih =>
    intro t ht
    have := (wordL_le hx).2.1
    rcases List.mem_cons.1 ht with rfl | ht
    · simp
    · have := ih t ht
      simp only [List.length_drop] at *
      omega
/-- No word's place lies between a colon and an =. -/
theorem Rd.whole {l : List UInt8} {o : Nat} {ts : List Tk} (h : Rd ok l o ts) {t : Tk} (ht : t ∈ ts) : Whole l (t.place - o) := by
  rintro ⟨h1, h58, h61⟩
  cases l with
  | nil => simp [hd] at h58
  | cons c r =>
    obtain rfl : c = 58 := by simpa [hd] using h58
    cases h with
    | blank h k => exact absurd h (by decide)
    | note hb hc hk h => exact absurd hc (by decide)
    | word hb hc hx h =>
      rename_i x ts
      have e : wordL ok (58 :: r) = some (7, (58 :: r).take 2, 2) := by
        rw [wordL_cons, if_neg (by decide), if_neg (by decide), if_neg (by decide), if_neg (by decide), if_pos rfl, if_pos (by simpa using h61)]
      rw [e] at hx
      injection hx with hx
      subst hx
      rcases List.mem_cons.1 ht with rfl | ht
      · simp at h1
      · have := h.place_ge t ht
        simp at this
        omega
theorem Rd.cut {l : List UInt8} {o : Nat} {ts : List Tk} (h : Rd ok l o ts) (k : Nat) (hk : k < ts.length) : Rd ok (l.take (ts[k].place - o)) o (ts.take k ++ [⟨0, [], ts[k].place⟩]) := by
  induction h generalizing k with
  | nil o => 
    have : k = 0 := by simpa using hk
    subst this
    simp
    exact .nil o
  | @blank c r o ts h j ih =>
    have h1 := j.place_ge ts[k] (List.getElem_mem hk)
    have h2 := ih k hk
    rw [show ts[k].place - o = (ts[k].place - (o + 1)) + 1 by omega, List.take_succ_cons]
    exact .blank h h2
  | @note c r o j ts hb hc hj h ih =>
    have h1 := h.place_ge ts[k] (List.getElem_mem hk)
    have h2 := ih k hk
    have hlt := idxOf_lt hj
    obtain ⟨m, hm⟩ : ∃ m, ts[k].place - (o + j + 2) = m := ⟨_, rfl⟩
    rw [hm] at h2
    rw [show ts[k].place - o = (j + 1 + m) + 1 by omega, List.take_succ_cons]
    refine .note hb hc (k := j) ?_ ?_
    · have e : r.take (j + 1 + m) = r.take (j + 1) ++ (r.drop (j + 1)).take m := List.take_add
      rw [e, List.idxOf?, List.findIdx?_append, ← List.idxOf?]
      have e2 : (r.take (j + 1)).idxOf? 34 = some j := by
        unfold List.idxOf? at hj ⊢
        rw [List.findIdx?_eq_some_iff_getElem] at hj ⊢
        obtain ⟨g1, g2, g3⟩ := hj
        refine ⟨by simp; omega, by simpa using g2, fun i hi => ?_⟩
        have := g3 i hi
        simpa using this
      rw [e2]
      rfl
    · rw [List.drop_take]
      rw [show j + 1 + m - (j + 1) = m by omega]
      exact h2
  | @word c r o x ts hb hc hx h ih =>
    have h1 := wordL_le hx
    cases k with
    | zero => simp; exact .nil o
    | succ k =>
      have hk' : k < ts.length := by simpa using hk
      have h2 := ih k hk'
      have h3 := h.place_ge ts[k] (List.getElem_mem hk')
      simp only [List.getElem_cons_succ, List.take_succ_cons, List.cons_append]
      obtain ⟨m, hm⟩ : ∃ m, ts[k].place - o = m + 1 := ⟨ts[k].place - o - 1, by omega⟩
      have hw := h.whole (List.getElem_mem hk')
      have e : ts[k].place - (o + x.2.2) = m + 1 - x.2.2 := by omega
      rw [e] at h2 hw
      rw [hm]
      have hx2 := wordL_cut hx (m := m + 1) (by omega) hw
      rw [List.take_succ_cons] at hx2 ⊢
      refine .word hb hc hx2 ?_
      rw [← List.take_succ_cons, List.drop_take]
      exact h2

/-! ### the places -/
theorem Rd.places {l : List UInt8} {o : Nat} {ts : List Tk} (h : Rd ok l o ts) :
    (∀ i (hi : i < ts.length), (ts[i].kind = 0 ↔ i + 1 = ts.length)) ∧
    (∀ i (hi : i + 1 < ts.length), ts[i].place < ts[i + 1].place) ∧
    (∀ t ∈ ts, t.kind ≠ 5 → t.kind ≠ 6 → t.kind ≠ 0 → 0 < t.text.length ∧ t.text.length ≤ o + l.length - t.place ∧ (l.drop (t.place - o)).take t.text.length = t.text) ∧
    (∀ t ∈ ts.getLast?, t.place = o + l.length ∧ t.kind = 0 ∧ t.text = []) := by
  induction h with
  | nil o => 
    refine ⟨fun i hi => ?_, fun i hi => ?_, ?_, ?_⟩
    · have : i = 0 := by simpa using hi
      subst this
      simp
    · simp at hi
    · intro t ht; simp at ht; subst ht; intro _ _ h; exact absurd rfl h
    · intro t ht; simp at ht; subst ht; simp
  | @blank c r o ts h k ih =>
    have hg := k.place_ge
    obtain ⟨i1, i2, i3, i4⟩ := ih
    refine ⟨i1, i2, fun t ht h1 h2 h3 => ?_, fun t ht => ?_⟩
    · obtain ⟨g1, g2, g3⟩ := i3 t ht h1 h2 h3
      have := hg t ht
      refine ⟨g1, by simp; omega, ?_⟩
      rw [show t.place - o = (t.place - (o + 1)) + 1 by omega, List.drop_succ_cons]
      exact g3
    · obtain ⟨g1, g2⟩ := i4 t ht
      exact ⟨by simp; omega, g2⟩
  | @note c r o k ts hb hc hk h ih =>
    have hg := h.place_ge
    have hlt := idxOf_lt hk
    obtain ⟨i1, i2, i3, i4⟩ := ih
    refine ⟨i1, i2, fun t ht h1 h2 h3 => ?_, fun t ht => ?_⟩
    · obtain ⟨g1, g2, g3⟩ := i3 t ht h1 h2 h3
      have := hg t ht
      refine ⟨g1, by simp at g2 ⊢; omega, ?_⟩
      rw [List.drop_drop] at g3
      rw [show t.place - o = (k + 1 + (t.place - (o + k + 2))) + 1 by omega, List.drop_succ_cons]
      exact g3
    · obtain ⟨g1, g2⟩ := i4 t ht
      exact ⟨by simp at g1 ⊢; omega, g2⟩
  | @word c r o x ts hb hc hx h ih =>
    have hg := h.place_ge
    have hl := wordL_le hx
    obtain ⟨i1, i2, i3, i4⟩ := ih
    have hne := h.ne
    refine ⟨fun i hi => ?_, fun i hi => ?_, fun t ht h1 h2 h3 => ?_, fun t ht => ?_⟩
    · cases i with
      | zero =>
        simp only [List.getElem_cons_zero, List.length_cons]
        have : 0 < ts.length := List.length_pos_iff.2 hne
        constructor
        · intro h; exact absurd h hl.2.2.2
        · intro h; omega
      | succ i =>
        have := i1 i (by simpa using hi)
        simp only [List.getElem_cons_succ, List.length_cons]
        rw [this]
        omega
    · cases i with
      | zero =>
        simp only [List.getElem_cons_zero, List.getElem_cons_succ]
        have h0 : 0 < ts.length := by simpa using hi
        have := hg ts[0] (List.getElem_mem h0)
        omega
      | succ i =>
        simp only [List.getElem_cons_succ]
        exact i2 i (by simpa using hi)
    · rcases List.mem_cons.1 ht with rfl | ht
      · have e := hl.2.2.1 h1 h2
        simp only at e ⊢
        have e2 : x.2.1.length = x.2.2 := by rw [e, List.length_take]; have := hl.2.1; omega
        rw [e2]
        refine ⟨hl.1, by have := hl.2.1; omega, ?_⟩
        rw [Nat.sub_self, List.drop_zero]
        exact e.symm
      · obtain ⟨g1, g2, g3⟩ := i3 t ht h1 h2 h3
        have := hg t ht
        have := hl.2.1
        refine ⟨g1, by simp only [List.length_drop] at g2; omega, ?_⟩
        rw [List.drop_drop] at g3
        rw [show t.place - o = x.2.2 + (t.place - (o + x.2.2)) by omega]
        exact g3
    · have ht2 : t ∈ ts.getLast? := by
        cases ts with
        | nil => exact absurd rfl hne
        | cons a ts => simpa using ht
      obtain ⟨g1, g2⟩ := i4 t ht2
      have := hl.2.1
      exact ⟨by simp only [List.length_drop] at g1; omega, g2⟩
end
def escL : List UInt8 → List UInt8
  | [] => []
  | c :: l => if c = 39 then 39 :: 39 :: escL l else c :: escL l
def quoteL (t : List UInt8) : List UInt8 := 39 :: (escL t ++ [39])
def plainSym (t : List UInt8) : Bool := !(t.isEmpty) && !(hd (· == 39) t) && (match symbolL t with
  | some x => x.1 == t
  | none => false)
def written (k : Nat) (t : List UInt8) : List UInt8 := if k = 5 then quoteL t else if k = 6 then (if plainSym t then 35 :: t else 35 :: quoteL t) else t
def wr : List Tk → List UInt8
  | [] => []
  | t :: ts => written t.kind t.text ++ 32 :: wr ts
section
variable {ok : List UInt8 → Bool}
theorem escL_len (t : List UInt8) : t.length ≤ (escL t).length := by
  induction t with
  | nil => simp [escL]
  | cons c t ih => unfold escL; split <;> simp <;> omega
theorem quoLL_esc (t r : List UInt8) (h : hd (· == 39) r = false) : quoLL (escL t ++ 39 :: r) = some (t, (escL t).length + 1) := by
  induction t with
  | nil => simp only [escL, List.nil_append]; rw [quoLL_end h]; rfl
  | cons c t ih =>
    unfold escL
    split
    · rename_i hc
      subst hc
      rw [List.cons_append, List.cons_append, quoLL_two, ih]
      rfl
    · rename_i hc
      rw [List.cons_append, quoLL_ne hc, ih]
      rfl
theorem quotedL_quote (t r : List UInt8) (h : hd (· == 39) r = false) (ht : t.length ≤ 1024) : quotedL (quoteL t ++ r) = some (t, (quoteL t).length) := by
  unfold quotedL quoteL
  rw [if_pos (by simp [hd])]
  simp only [List.cons_append, List.append_assoc, List.nil_append, List.drop_succ_cons, List.drop_zero]
  rw [quoLL_esc t r h]
  simp [ht]
theorem symbolL_len {l : List UInt8} {x : List UInt8 × Nat} (h : symbolL l = some x) : x.1.length ≤ 1024 := by
  unfold symbolL at h
  split at h
  · split at h
    · injection h with h; subst h; simp; omega
    · cases h
  · split at h
    · injection h with h; subst h
      have : signN l ≤ 2 := by unfold signN; split <;> (try split) <;> omega
      simp
      omega
    · unfold quotedL at h
      split at h
      · rw [Option.bind_eq_some_iff] at h
        obtain ⟨y, hy, h⟩ := h
        split at h
        · injection h with h; subst h; assumption
        · cases h
      · cases h
theorem quotedL_len {l : List UInt8} {x : List UInt8 × Nat} (h : quotedL l = some x) : x.1.length ≤ 1024 := by
  unfold quotedL at h
  split at h
  · rw [Option.bind_eq_some_iff] at h
    obtain ⟨y, hy, h⟩ := h
    split at h
    · injection h with h; subst h; assumption
    · cases h
  · cases h
theorem take_all {t : List UInt8} {n : Nat} (h : t.take n = t) (hn : n ≤ t.length) : n = t.length := by
  have := congrArg List.length h
  simp at this
  omega
theorem plainSym_is {t : List UInt8} (h : plainSym t = true) : symbolL t = some (t, t.length) ∧ (hd letC t = true ∨ hd sigC t = true) := by
  unfold plainSym at h
  simp only [Bool.and_eq_true, Bool.not_eq_true'] at h
  obtain ⟨⟨h1, h2⟩, h3⟩ := h
  cases hs : symbolL t with
  | none => rw [hs] at h3; cases h3
  | some x =>
    rw [hs] at h3
    have h3 : x.1 = t := by simpa using h3
    unfold symbolL at hs
    split at hs
    · rename_i hl
      split at hs
      · injection hs with hs
        subst hs
        have e := take_all h3 (symE_le t)
        exact ⟨by simp only at h3; rw [h3, e], .inl hl⟩
      · cases hs
    · split at hs
      · rename_i hl
        injection hs with hs
        subst hs
        have e := take_all h3 (signN_le t)
        exact ⟨by simp only at h3; rw [h3, e], .inr hl⟩
      · unfold quotedL at hs
        rw [if_neg (by simp [h2])] at hs
        cases hs
theorem sig_not {c : UInt8} (h : sigC c = true) : ¬ c = 40 := by rintro rfl; exact absurd h (by decide)
theorem let_not {c : UInt8} (h : letC c = true) : ¬ c = 40 := by rintro rfl; exact absurd h (by decide)
theorem word_written {l r : List UInt8} {x : Nat × List UInt8 × Nat} (h : wordL ok l = some x) : wordL ok (written x.1 x.2.1 ++ 32 :: r) = some (x.1, x.2.1, (written x.1 x.2.1).length) ∧ hd blaC (written x.1 x.2.1) = hd blaC l ∧ hd (· == 34) (written x.1 x.2.1) = hd (· == 34) l := by
  have hle := wordL_le h
  by_cases h5 : x.1 = 5
  · -- a text
    cases l with
    | nil => simp [wordL] at h
    | cons c l =>
      have key : c = 39 ∧ x.2.1.length ≤ 1024 := by
        rw [wordL_cons] at h
        split at h
        · split at h <;> (injection h with h; subst h; cases h5)
        split at h
        · split at h
          · injection h with h; subst h; cases h5
          · cases h
        split at h
        · rename_i hc
          simp only [Option.map_eq_some_iff] at h
          obtain ⟨y, hy, rfl⟩ := h
          exact ⟨hc, quotedL_len hy⟩
        split at h
        · split at h
          · injection h with h; subst h; cases h5
          · simp only [Option.map_eq_some_iff] at h
            obtain ⟨y, hy, rfl⟩ := h
            cases h5
        split at h
        · split at h <;> (injection h with h; subst h; cases h5)
        split at h
        · injection h with h; subst h; cases h5
        split at h
        · injection h with h; subst h; simp at h5; omega
        · cases h
      obtain ⟨rfl, hlen⟩ := key
      have e : written x.1 x.2.1 = quoteL x.2.1 := by unfold written; rw [if_pos h5]
      rw [e]
      refine ⟨?_, by simp [quoteL, hd], by simp [quoteL, hd]⟩
      have hq := quotedL_quote x.2.1 (32 :: r) rfl hlen
      unfold quoteL at hq ⊢
      rw [List.cons_append] at hq ⊢
      rw [wordL_cons, if_neg (by decide), if_neg (by decide), if_pos rfl, hq]
      rw [h5]
      rfl
  by_cases h6 : x.1 = 6
  · cases l with
    | nil => simp [wordL] at h
    | cons c l =>
      have key : c = 35 ∧ x.2.1.length ≤ 1024 := by
        rw [wordL_cons] at h
        split at h
        · split at h <;> (injection h with h; subst h; cases h6)
        split at h
        · split at h
          · injection h with h; subst h; cases h6
          · cases h
        split at h
        · rename_i hc
          simp only [Option.map_eq_some_iff] at h
          obtain ⟨y, hy, rfl⟩ := h
          cases h6
        split at h
        · rename_i hc
          split at h
          · injection h with h; subst h; cases h6
          · simp only [Option.map_eq_some_iff] at h
            obtain ⟨y, hy, rfl⟩ := h
            exact ⟨hc, symbolL_len (x := y) hy⟩
        split at h
        · split at h <;> (injection h with h; subst h; cases h6)
        split at h
        · injection h with h; subst h; cases h6
        split at h
        · injection h with h; subst h; simp at h6; omega
        · cases h
      obtain ⟨rfl, hlen⟩ := key
      have e : written x.1 x.2.1 = 35 :: (if plainSym x.2.1 then x.2.1 else quoteL x.2.1) := by
        unfold written; rw [if_neg h5, if_pos h6]; split <;> rfl
      rw [e]
      refine ⟨?_, by simp [hd], by simp [hd]⟩
      have hs : symbolL ((if plainSym x.2.1 then x.2.1 else quoteL x.2.1) ++ 32 :: r) = some (x.2.1, (if plainSym x.2.1 then x.2.1 else quoteL x.2.1).length) ∧ hd (· == 40) ((if plainSym x.2.1 then x.2.1 else quoteL x.2.1) ++ 32 :: r) = false := by
        split
        · rename_i hp
          obtain ⟨g1, g2⟩ := plainSym_is hp
          refine ⟨symbolL_blank g1, ?_⟩
          rw [hd_blank (by decide)]
          generalize x.2.1 = u at g2
          cases u with
          | nil => rfl
          | cons d u =>
            rcases g2 with g | g
            · simpa [hd] using let_not (by simpa [hd] using g)
            · simpa [hd] using sig_not (by simpa [hd] using g)
        · refine ⟨?_, by simp [quoteL, hd]⟩
          unfold symbolL
          rw [if_neg (by simp [quoteL, hd]; decide), if_neg (by simp [quoteL, hd]; decide)]
          exact quotedL_quote x.2.1 (32 :: r) rfl hlen
      rw [List.cons_append, wordL_cons, if_neg (by decide), if_neg (by decide), if_neg (by decide), if_pos rfl, hs.2, hs.1]
      rw [h6]
      rfl
  · have e : written x.1 x.2.1 = l.take x.2.2 := by unfold written; rw [if_neg h5, if_neg h6, hle.2.2.1 h5 h6]
    rw [e]
    have hc := wordL_cut h (Nat.le_refl _) (by rw [Nat.sub_self]; exact Whole.zero)
    have hb := wordL_blank (r := r) hc
    rw [hb]
    have e2 : (l.take x.2.2).length = x.2.2 := by rw [List.length_take]; have := hle.2.1; omega
    rw [e2]
    exact ⟨rfl, hd_cut _ _ hle.1, hd_cut _ _ hle.1⟩
theorem Rd.back {l : List UInt8} {o : Nat} {ts : List Tk} (h : Rd ok l o ts) (o' : Nat) : ∃ us, Rd ok (wr ts) o' us ∧ us.map (fun t => (t.kind, t.text)) = ts.map (fun t => (t.kind, t.text)) := by
  induction h generalizing o' with
  | nil o => exact ⟨[⟨0, [], o' + 1⟩], .blank (by decide) (.nil _), rfl⟩
  | blank h k ih => exact ih o'
  | note hb hc hk h ih => exact ih o'
  | @word c r o x ts hb hc hx h ih =>
    obtain ⟨w1, w2, w3⟩ := word_written (r := wr ts) hx
    have hle := wordL_le hx
    obtain ⟨W, hW⟩ : ∃ W, written x.1 x.2.1 = W := ⟨_, rfl⟩
    obtain ⟨us, hu, hm⟩ := ih (o' + W.length + 1)
    show ∃ us, Rd ok (written x.1 x.2.1 ++ 32 :: wr ts) o' us ∧ _
    rw [hW] at w1 w2 w3 ⊢
    cases W with
    | nil => have := (wordL_le w1).1; simp at this
    | cons d W =>
      refine ⟨⟨x.1, x.2.1, o'⟩ :: us, ?_, by simp [hm]⟩
      rw [List.cons_append] at w1 ⊢
      have hd34 : ¬ d = 34 := by
        have e : (d == 34) = (c == 34) := by simpa [hd] using w3
        intro h
        rw [h] at e
        exact hc (by simpa using e.symm)
      have hk : Rd ok ((d :: (W ++ 32 :: wr ts)).drop (d :: W).length) (o' + (d :: W).length) us := by
        rw [← List.cons_append, List.drop_left]
        exact .blank (by decide) hu
      exact Rd.word (x := (x.1, x.2.1, (d :: W).length)) (by simpa [hd, hb] using w2) hd34 w1 hk
theorem read_quote (t : List UInt8) (ht : t.length ≤ 1024) : PL.read ok (quoteL t) 0 = .ok [⟨5, t, 0⟩, ⟨0, [], (quoteL t).length⟩] := by
  refine Rd.read ?_
  have hq := quotedL_quote t [] (by decide) ht
  rw [List.append_nil] at hq
  have hw : wordL ok (quoteL t) = some (5, t, (quoteL t).length) := by
    unfold quoteL at hq ⊢
    rw [wordL_cons, if_neg (by decide), if_neg (by decide), if_pos rfl, hq]
    rfl
  have := Rd.word (ok := ok) (c := 39) (r := escL t ++ [39]) (o := 0) (x := (5, t, (quoteL t).length)) (ts := [⟨0, [], (quoteL t).length⟩]) (by decide) (by decide) hw (by
    show Rd ok ((quoteL t).drop (quoteL t).length) (0 + (quoteL t).length) _
    rw [List.drop_length, Nat.zero_add]
    exact .nil _)
  exact this
end
end PL
end Go.Proofs.YtfjbhccapgnkiaaDoor.P
