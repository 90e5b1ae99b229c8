/-
The fixed call of the Scope laws comes out as it must.
-/
import Derived.Test.YtpodpmjlkbbkoaaMCLT
import Derived.Test.YtpodpmjlkbbkoaaMCLM
set_option linter.all false
namespace Go.Proofs.Ytpodpmjlkbbkoaa.P
open Go.RowKit Go.Proofs.YtpodpmjlkbbkoaaW.PrintWords Go.Proofs.YtpodpmjlkbbkoaaW.PrintLast Go.Proofs.YtpodpmjlkbbkoaaW.PrintMore
def kSrc : ByteArray := ⟨#[124, 32, 97, 32, 124, 32, 97, 32, 58, 61, 32, 91, 58, 98, 32, 124, 32, 97, 32, 43, 32, 98, 32, 43, 32, 82, 111, 111, 116, 93]⟩
def kTs : List PL.Tk := [⟨12, [124], 0⟩, ⟨1, [97], 2⟩, ⟨12, [124], 4⟩, ⟨1, [97], 6⟩, ⟨7, [58, 61], 8⟩, ⟨10, [91], 11⟩, ⟨16, [58], 12⟩, ⟨1, [98], 13⟩, ⟨12, [124], 15⟩, ⟨1, [97], 17⟩, ⟨3, [43], 19⟩, ⟨1, [98], 21⟩, ⟨3, [43], 23⟩, ⟨1, [82, 111, 111, 116], 25⟩, ⟨11, [93], 29⟩, ⟨0, [], 30⟩]
theorem k_words (ok : List UInt8 → Bool) : PL.read ok kSrc.data.toList 0 = .ok kTs := by kernel_rfl
def kA : ByteArray := ⟨#[97]⟩
def kBb : ByteArray := ⟨#[98]⟩
def kP : ByteArray := ⟨#[43]⟩
def kR : ByteArray := ⟨#[82, 111, 111, 116]⟩
def kNode : SP.Nd := .mk 12 SP.E 0 0 [kA] [.mk 6 kA 6 0 [] [.mk 10 SP.E 11 1 [kBb] [.mk 7 kP 23 0 [] [.mk 7 kP 19 0 [] [.mk 5 kA 17 0 [] [], .mk 5 kBb 21 0 [] []], .mk 5 kR 25 0 [] []]]]]
theorem k_unit : SP.unit 268 false (kTs.map tk) = some (.ok (kNode, [tk ⟨0, [], 30⟩])) := by kernel_rfl
theorem k_resolve : SP.resolve [] kNode = .ok [⟨6, kA, 3, 0, 0, true⟩, ⟨17, kA, 3, 1, 0, false⟩, ⟨21, kBb, 3, 0, 0, false⟩, ⟨25, kR, 5, 0, 0, false⟩] := by kernel_rfl
end Go.Proofs.Ytpodpmjlkbbkoaa.P
namespace Go.Proofs.Ytpodpmjlkbbkoaa.P
open Go.RowKit Go.Proofs.YtpodpmjlkbbkoaaW.PrintWords Go.Proofs.YtpodpmjlkbbkoaaW.PrintLast Go.Proofs.YtpodpmjlkbbkoaaW.PrintMore
def t43 (u : S29) : S43 := ⟨u.f0, u.f1, u.f2, u.f3, u.f4, u.f5⟩
theorem wrap_succ {i : Nat} (h : i < 1000000000) : wrap64 ((i : Int) + 1) = ((i + 1 : Nat) : Int) := by unfold wrap64; omega
theorem rd29 {x : List S29} {i : Nat} (h : i < x.length) : rd_T29 x (i : Int) = x[i] := by
 unfold rd_T29
 rw [Int.toNat_natCast, List.getD_eq_getElem?_getD, List.getElem?_eq_getElem h]
 rfl
theorem taken_from (x : List S29) (hx : x.length ≤ 1000000) : ∀ (n i : Nat) (acc : List S43) (k : Nat), i + n = x.length → acc.length = i → n < k → lapidarylaw09_taken.l0 k x acc (i : Int) = some (acc ++ (x.drop i).map t43)
 | n, i, acc, 0, h, ha, hk => by omega
 | 0, i, acc, k + 1, h, ha, hk => by
  simp only [lapidarylaw09_taken.l0]
  rw [if_neg (by omega), List.drop_eq_nil_of_le (by omega)]
  simp
 | n + 1, i, acc, k + 1, h, ha, hk => by
  simp only [lapidarylaw09_taken.l0]
  have hlt : i < x.length := by omega
  rw [if_pos (by omega), if_pos (by omega), if_pos (by omega), wrap_succ (by omega), rd29 hlt]
  rw [taken_from x hx n (i + 1) _ k (by omega) (by simp; omega) (by omega), List.drop_eq_getElem_cons hlt, List.map_cons, List.append_assoc]
  rfl
theorem taken_ev {x : List S29} (hx : x.length ≤ 1000000) {k : Nat} (hk : x.length < k) : lapidarylaw09_taken.f k x = some (x.map t43) := by
 have := taken_from x hx x.length 0 [] k (by omega) rfl hk
 unfold lapidarylaw09_taken.f
 rw [show (0 : Int) = ((0 : Nat) : Int) from rfl, this]
 simp
theorem same_from (x : List S43) (hx : x.length ≤ 1000000) : ∀ (n i k : Nat), i + n = x.length → n < k → lapidaryref09_Same.l0 k x x (i : Int) = some true
 | n, i, 0, h, hk => by omega
 | 0, i, k + 1, h, hk => by
  simp only [lapidaryref09_Same.l0]
  rw [if_neg (by omega)]
 | n + 1, i, k + 1, h, hk => by
  simp only [lapidaryref09_Same.l0]
  rw [if_pos (by omega), if_pos (by omega), if_pos (by omega), if_neg (by simp), wrap_succ (by omega)]
  exact same_from x hx n (i + 1) k (by omega) (by omega)
theorem same_ev {x : List S43} (hx : x.length ≤ 1000000) {k : Nat} (hk : x.length < k) : lapidaryref09_Same.f k x x = some true := by
 unfold lapidaryref09_Same.f
 rw [if_pos rfl]
 exact same_from x hx x.length 0 k (by omega) hk
theorem k_parse : parseS kSrc = (kNode, 0, 0) := by
 have e : readS okNum kSrc = (kTs.map tk, 0, 0) := by
  unfold readS
  rw [if_pos (by decide), k_words]
 unfold parseS
 rw [e]
 simp only
 rw [if_pos trivial, show 16 * (kTs.map tk).length + 12 = 268 from rfl, k_unit]
 rfl
def kUses : List SP.Use := [⟨6, kA, 3, 0, 0, true⟩, ⟨17, kA, 3, 1, 0, false⟩, ⟨21, kBb, 3, 0, 0, false⟩, ⟨25, kR, 5, 0, 0, false⟩]
theorem k_resolved : lapidarylaw09_resolved.f kSrc false [] = some (kUses.map u29, 0, 0, true) := by
 unfold lapidarylaw09_resolved.f
 rw [k_parse]
 simp only [resolvedS]
 rw [if_neg (by decide), if_pos trivial, k_resolve]
 rfl
theorem known_ev {k : Nat} (hk : 10 ≤ k) : lapidarylaw09_known.f k = some true := by
 unfold lapidarylaw09_known.f
 rw [show (⟨#[124, 32, 97, 32, 124, 32, 97, 32, 58, 61, 32, 91, 58, 98, 32, 124, 32, 97, 32, 43, 32, 98, 32, 43, 32, 82, 111, 111, 116, 93]⟩ : ByteArray) = kSrc from rfl, k_resolved]
 simp only [Option.bind_some]
 rw [if_pos trivial, if_pos trivial, taken_ev (by simp [kUses]) (by simp [kUses]; omega)]
 simp only [Option.bind_some]
 have e : ((kUses.map u29).map t43) = ([(⟨6, (⟨#[97]⟩ : ByteArray), 3, 0, 0, true⟩ : S43), (⟨17, (⟨#[97]⟩ : ByteArray), 3, 1, 0, false⟩ : S43), (⟨21, (⟨#[98]⟩ : ByteArray), 3, 0, 0, false⟩ : S43), (⟨25, (⟨#[82, 111, 111, 116]⟩ : ByteArray), 5, 0, 0, false⟩ : S43)] : List (S43)) := rfl
 rw [e, same_ev (by simp) (by simp; omega)]
 rfl
end Go.Proofs.Ytpodpmjlkbbkoaa.P
namespace Go.Proofs.Ytpodpmjlkbbkoaa.P
open Go.RowKit Go.Proofs.YtpodpmjlkbbkoaaW.PrintWords Go.Proofs.YtpodpmjlkbbkoaaW.PrintLast Go.Proofs.YtpodpmjlkbbkoaaW.PrintMore
namespace SP
theorem find_name (slots : List ByteArray) (s : ByteArray) (fs : List Fr) : (find slots s fs).1.name = s := by
 unfold find
 split
 ·rfl
 ·split
  ·rfl
  ·split <;> rfl
theorem idx_more {s more : ByteArray} (h : s ≠ more) : ∀ (slots : List ByteArray) (i : Nat), idx s (slots ++ [more]) i = idx s slots i
 | [], i => by
  simp only [List.nil_append, idx]
  rw [if_neg (fun e => h e.symm)]
 | x :: l, i => by
  simp only [List.cons_append, idx]
  split
  ·rfl
  ·exact idx_more h l (i + 1)
theorem find_more {s more : ByteArray} (h : s ≠ more) (slots : List ByteArray) (fs : List Fr) : find (slots ++ [more]) s fs = find slots s fs := by
 unfold find
 rw [idx_more h]
mutual
theorem part_pre (slots : List ByteArray) : ∀ (x : Nd) (fs : List Fr) (rcv : Bool) (acc us : List Use), part slots fs rcv acc x = .ok us → ∃ d, us = acc ++ d
 | .mk kind text place n names kids, fs, rcv, acc, us, h => by
  simp only [part] at h
  split at h
  ·split at h
   ·cases h
   ·exact ⟨_, (Except.ok.inj h).symm⟩
  ·split at h
   ·split at h
    ·cases h
    ·obtain ⟨d, rfl⟩ := parts_pre slots kids _ _ _ _ h
     exact ⟨_, List.append_assoc _ _ _⟩
   ·split at h
    ·split at h
     ·exact parts_pre slots kids _ _ _ _ h
     ·cases h
    ·exact parts_pre slots kids _ _ _ _ h
theorem parts_pre (slots : List ByteArray) : ∀ (l : List Nd) (fs : List Fr) (first : Bool) (acc us : List Use), parts slots fs first acc l = .ok us → ∃ d, us = acc ++ d
 | [], fs, first, acc, us, h => by
  simp only [parts] at h
  exact ⟨[], by rw [← Except.ok.inj h, List.append_nil]⟩
 | k :: ks, fs, first, acc, us, h => by
  simp only [parts] at h
  cases hp : part slots fs first acc k with
  | error e => rw [hp] at h; cases h
  | ok a =>
   rw [hp] at h
   obtain ⟨d, rfl⟩ := part_pre slots k _ _ _ _ hp
   obtain ⟨d2, rfl⟩ := parts_pre slots ks _ _ _ _ h
   exact ⟨_, List.append_assoc _ _ _⟩
end
mutual
theorem part_more (slots : List ByteArray) (more : ByteArray) : ∀ (x : Nd) (fs : List Fr) (rcv : Bool) (acc us : List Use), part slots fs rcv acc x = .ok us → (∀ u, u ∈ us → u.name ≠ more) → part (slots ++ [more]) fs rcv acc x = .ok us
 | .mk kind text place n names kids, fs, rcv, acc, us, h, hm => by
  simp only [part] at h ⊢
  split at h
  ·rename_i h5
   rw [if_pos h5]
   split at h
   ·cases h
   ·rename_i hb
    have hn : text ≠ more := by
     have h2 := Except.ok.inj h
     have := hm { (find slots text fs).1 with place := place } (by rw [← h2]; simp)
     rw [← find_name slots text fs]
     exact this
    rw [find_more hn, if_neg hb]
    exact h
  ·rename_i h5
   rw [if_neg h5]
   split at h
   ·rename_i h6
    rw [if_pos h6]
    split at h
    ·cases h
    ·rename_i hb
     obtain ⟨d, hd⟩ := parts_pre slots kids _ _ _ _ h
     have hn : text ≠ more := by
      have := hm { (find slots text fs).1 with place := place, write := true } (by rw [hd]; simp)
      rw [← find_name slots text fs]
      exact this
     rw [find_more hn, if_neg hb]
     exact parts_more slots more kids _ _ _ _ h hm
   ·rename_i h6
    rw [if_neg h6]
    split at h
    ·rename_i h10
     rw [if_pos h10]
     split at h
     ·rename_i hok
      rw [if_pos hok]
      exact parts_more slots more kids _ _ _ _ h hm
     ·cases h
    ·rename_i h10
     rw [if_neg h10]
     exact parts_more slots more kids _ _ _ _ h hm
theorem parts_more (slots : List ByteArray) (more : ByteArray) : ∀ (l : List Nd) (fs : List Fr) (first : Bool) (acc us : List Use), parts slots fs first acc l = .ok us → (∀ u, u ∈ us → u.name ≠ more) → parts (slots ++ [more]) fs first acc l = .ok us
 | [], fs, first, acc, us, h, hm => h
 | k :: ks, fs, first, acc, us, h, hm => by
  simp only [parts] at h ⊢
  cases hp : part slots fs first acc k with
  | error e => rw [hp] at h; cases h
  | ok a =>
   rw [hp] at h
   obtain ⟨d, rfl⟩ := parts_pre slots ks _ _ _ _ h
   rw [part_more slots more k _ _ _ _ hp (fun u hu => hm u (List.mem_append_left _ hu))]
   exact parts_more slots more ks _ _ _ _ h hm
end
theorem resolve_more {slots : List ByteArray} {more : ByteArray} {x : Nd} {us : List Use} (h : resolve slots x = .ok us) (hm : ∀ u, u ∈ us → u.name ≠ more) : resolve (slots ++ [more]) x = .ok us := by
 unfold resolve at h ⊢
 split at h
 ·rename_i hok
  rw [if_pos hok]
  exact parts_more slots more _ _ _ _ _ h hm
 ·cases h
theorem resolve_len {slots : List ByteArray} {x : Nd} {us : List Use} (h : resolve slots x = .ok us) : us.length ≤ cnt x := by
 unfold resolve at h
 rw [cnt_eq]
 split at h
 ·have := parts_len slots _ _ _ _ _ h
  simp only [List.length_nil] at this
  omega
 ·cases h
end SP
/-- A source's uses are few. -/
theorem resolved_len (s : ByteArray) (slots : List ByteArray) : (resolvedS (parseS s).1 (parseS s).2.2 slots).1.length ≤ 4098 := by
 unfold resolvedS
 split
 ·cases h : SP.resolve slots (parseS s).1 with
  | error p => exact Nat.zero_le _
  | ok us => exact Nat.le_trans (SP.resolve_len h) (parseS_cnt s)
 ·exact Nat.zero_le _
/-- Where there is no error, the names came out. -/
theorem resolved_ok {s : ByteArray} {slots : List ByteArray} (h1 : (resolvedS (parseS s).1 (parseS s).2.2 slots).2.2.2 = true) (h2 : (resolvedS (parseS s).1 (parseS s).2.2 slots).2.2.1 = 0) : (parseS s).2.2 = 0 ∧ SP.resolve slots (parseS s).1 = .ok (resolvedS (parseS s).1 (parseS s).2.2 slots).1 := by
 unfold resolvedS at h1 h2 ⊢
 split at h1
 ·rename_i h0
  rw [if_pos h0] at h2 ⊢
  refine ⟨h0, ?_⟩
  cases h : SP.resolve slots (parseS s).1 with
  | error p => rw [h] at h2; exact absurd (show (21 : Int) = 0 from h2) (by decide)
  | ok us => rfl
 ·cases h1
theorem more_from {a0 : ByteArray} {l1 : List ByteArray} {a2 : ByteArray} {us : List SP.Use} (hl : l1.length ≤ 1048576) (h0 : (parseS a0).2.2 = 0) (hr : SP.resolve l1 (parseS a0).1 = .ok us) (hlen : us.length ≤ 4098) : ∀ (n i k : Nat), i + n = us.length → 10000 + n < k → (∀ (u : SP.Use) (j : Nat), j < i → us[j]? = some u → u.name ≠ a2) → lapidarylaw09_ScopeMore.l0 k a0 l1 a2 (us.map u29) (i : Int) = some true
 | n, i, 0, h, hk, hm => by omega
 | 0, i, k + 1, h, hk, hm => by
  simp only [lapidarylaw09_ScopeMore.l0]
  have hm2 : ∀ u, u ∈ us → u.name ≠ a2 := fun u hu => by
   obtain ⟨j, hj⟩ := List.mem_iff_getElem?.1 hu
   exact hm u j (by have := (List.getElem?_eq_some_iff.1 hj).1; omega) hj
  have hr2 := SP.resolve_more hr hm2
  rw [if_neg (by rw [List.length_map]; omega), if_pos (by simp; omega)]
  simp only [List.nil_append, Option.bind_some]
  rw [if_pos (by omega)]
  have e : lapidarylaw09_resolved.f a0 false (l1 ++ [a2]) = some (us.map u29, 0, 0, true) := by
   unfold lapidarylaw09_resolved.f resolvedS
   rw [if_neg (by decide), if_pos h0, hr2]
   rfl
  rw [e]
  simp only [Option.bind_some]
  rw [if_pos trivial, if_pos trivial, taken_ev (by rw [List.length_map]; omega) (by rw [List.length_map]; omega)]
  simp only [Option.bind_some]
  rw [same_ev (by simp only [List.length_map]; omega) (by simp only [List.length_map]; omega)]
  simp only [Option.bind_some]
  rw [if_pos trivial, known_ev (by omega)]
  rfl
 | n + 1, i, k + 1, h, hk, hm => by
  simp only [lapidarylaw09_ScopeMore.l0]
  have hlt : i < (us.map u29).length := by rw [List.length_map]; omega
  have hlt2 : i < us.length := by omega
  rw [if_pos (by omega), if_pos (by omega), rd29 hlt]
  split
  ·rw [known_ev (by omega)]
   rfl
  ·rename_i hne
   rw [wrap_succ (by omega)]
   refine more_from hl h0 hr hlen n (i + 1) k (by omega) (by omega) (fun u j hj hu => ?_)
   by_cases hji : j = i
   ·subst hji
    rw [List.getElem?_eq_getElem hlt2] at hu
    have hu := Option.some.inj hu
    intro hn
    apply hne
    rw [List.getElem_map, hu]
    show u.name.toList = a2.toList
    rw [hn]
   ·exact hm u j (by omega) hu
theorem more_ev (a0 : ByteArray) (l1 : List ByteArray) (a2 : ByteArray) (hl : l1.length ≤ 1048576) : lapidarylaw09_ScopeMore.f 20000 a0 l1 a2 = some true := by
 unfold lapidarylaw09_ScopeMore.f
 have e : lapidarylaw09_resolved.f a0 false l1 = some ((resolvedS (parseS a0).1 (parseS a0).2.2 l1).1.map u29, (resolvedS (parseS a0).1 (parseS a0).2.2 l1).2.1, (resolvedS (parseS a0).1 (parseS a0).2.2 l1).2.2.1, (resolvedS (parseS a0).1 (parseS a0).2.2 l1).2.2.2) := by
  unfold lapidarylaw09_resolved.f
  rw [if_neg (by decide)]
 rw [e]
 simp only [Option.bind_some]
 have hlen := resolved_len a0 l1
 by_cases h1 : (resolvedS (parseS a0).1 (parseS a0).2.2 l1).2.2.2 = true
 ·rw [if_pos h1]
  by_cases h2 : (resolvedS (parseS a0).1 (parseS a0).2.2 l1).2.2.1 = 0
  ·obtain ⟨h3, h4⟩ := resolved_ok h1 h2
   rw [h2]
   simp only [lapidarylaw09_ScopeMore.j0]
   rw [if_neg (by decide)]
   exact more_from hl h3 h4 hlen (resolvedS (parseS a0).1 (parseS a0).2.2 l1).1.length 0 19999 (by omega) (by omega) (fun u j hj => by omega)
  ·have hb : ((resolvedS (parseS a0).1 (parseS a0).2.2 l1).2.2.1 != 0) = true := bne_iff_ne.2 h2
   rw [hb]
   simp only [lapidarylaw09_ScopeMore.j0]
   rw [if_pos trivial, known_ev (by omega)]
   rfl
 ·rw [if_neg h1]
  simp only [lapidarylaw09_ScopeMore.j0]
  rw [if_pos trivial, known_ev (by omega)]
  rfl
end Go.Proofs.Ytpodpmjlkbbkoaa.P
