import Derived.Test.YtpodpmjlkbbkoaaQCLT
set_option linter.all false
namespace Go.Proofs.Ytpodpmjlkbbkoaa.P
open Go.RowKit Go.Proofs.YtpodpmjlkbbkoaaW.PrintWords Go.Proofs.YtpodpmjlkbbkoaaW.PrintLast Go.Proofs.YtpodpmjlkbbkoaaW.PrintMore
def kSrc : ByteArray := ⟨#[124, 32, 97, 32, 124, 32, 97, 32, 58, 61, 32, 91, 58, 98, 32, 124, 32, 97, 32, 43, 32, 98, 32, 43, 32, 82, 111, 111, 116, 93]⟩
def kTs : List PL.Tk := [⟨12, [124], 0⟩, ⟨1, [97], 2⟩, ⟨12, [124], 4⟩, ⟨1, [97], 6⟩, ⟨7, [58, 61], 8⟩, ⟨10, [91], 11⟩, ⟨16, [58], 12⟩, ⟨1, [98], 13⟩, ⟨12, [124], 15⟩, ⟨1, [97], 17⟩, ⟨3, [43], 19⟩, ⟨1, [98], 21⟩, ⟨3, [43], 23⟩, ⟨1, [82, 111, 111, 116], 25⟩, ⟨11, [93], 29⟩, ⟨0, [], 30⟩]
theorem k_words (ok : List UInt8 → Bool) : PL.read ok kSrc.data.toList 0 = .ok kTs := by kernel_rfl
def kA : ByteArray := ⟨#[97]⟩
def kBb : ByteArray := ⟨#[98]⟩
def kP : ByteArray := ⟨#[43]⟩
def kR : ByteArray := ⟨#[82, 111, 111, 116]⟩
def kNode : SP.Nd := .mk 12 SP.E 0 0 [kA] [.mk 6 kA 6 0 [] [.mk 10 SP.E 11 1 [kBb] [.mk 7 kP 23 0 [] [.mk 7 kP 19 0 [] [.mk 5 kA 17 0 [] [], .mk 5 kBb 21 0 [] []], .mk 5 kR 25 0 [] []]]]]
theorem k_unit : SP.unit 268 false (kTs.map tk) = some (.ok (kNode, [tk ⟨0, [], 30⟩])) := by kernel_rfl
theorem k_resolve : SP.resolve [] kNode = .ok [⟨6, kA, 3, 0, 0, true⟩, ⟨17, kA, 3, 1, 0, false⟩, ⟨21, kBb, 3, 0, 0, false⟩, ⟨25, kR, 5, 0, 0, false⟩] := by kernel_rfl
end Go.Proofs.Ytpodpmjlkbbkoaa.P
namespace Go.Proofs.Ytpodpmjlkbbkoaa.P
open Go.RowKit Go.Proofs.YtpodpmjlkbbkoaaW.PrintWords Go.Proofs.YtpodpmjlkbbkoaaW.PrintLast Go.Proofs.YtpodpmjlkbbkoaaW.PrintMore
def t43 (u : S29) : S43 := ⟨u.f0, u.f1, u.f2, u.f3, u.f4, u.f5⟩
theorem wrap_succ {i : Nat} (h : i < 1000000000) : wrap64 ((i : Int) + 1) = ((i + 1 : Nat) : Int) := by unfold wrap64; omega
theorem rd29 {x : List S29} {i : Nat} (h : i < x.length) : rd_T29 x (i : Int) = x[i] := by
 unfold rd_T29
 rw [Int.toNat_natCast, List.getD_eq_getElem?_getD, List.getElem?_eq_getElem h]
 rfl
theorem taken_from (x : List S29) (hx : x.length ≤ 1000000) : ∀ (n i : Nat) (acc : List S43) (k : Nat), i + n = x.length → acc.length = i → n < k → lapidarylaw09_taken.l0 k x acc (i : Int) = some (acc ++ (x.drop i).map t43)
 | n, i, acc, 0, h, ha, hk => by omega
 | 0, i, acc, k + 1, h, ha, hk => by
  simp only [lapidarylaw09_taken.l0]
  rw [if_neg (by omega), List.drop_eq_nil_of_le (by omega)]
  simp
 | n + 1, i, acc, k + 1, h, ha, hk => by
  simp only [lapidarylaw09_taken.l0]
  have hlt : i < x.length := by omega
  rw [if_pos (by omega), if_pos (by omega), if_pos (by omega), wrap_succ (by omega), rd29 hlt]
  rw [taken_from x hx n (i + 1) _ k (by omega) (by simp; omega) (by omega), List.drop_eq_getElem_cons hlt, List.map_cons, List.append_assoc]
  rfl
theorem taken_ev {x : List S29} (hx : x.length ≤ 1000000) {k : Nat} (hk : x.length < k) : lapidarylaw09_taken.f k x = some (x.map t43) := by
 have := taken_from x hx x.length 0 [] k (by omega) rfl hk
 unfold lapidarylaw09_taken.f
 rw [show (0 : Int) = ((0 : Nat) : Int) from rfl, this]
 simp
theorem same_from (x : List S43) (hx : x.length ≤ 1000000) : ∀ (n i k : Nat), i + n = x.length → n < k → lapidaryref09_Same.l0 k x x (i : Int) = some true
 | n, i, 0, h, hk => by omega
 | 0, i, k + 1, h, hk => by
  simp only [lapidaryref09_Same.l0]
  rw [if_neg (by omega)]
 | n + 1, i, k + 1, h, hk => by
  simp only [lapidaryref09_Same.l0]
  rw [if_pos (by omega), if_pos (by omega), if_pos (by omega), if_neg (by simp), wrap_succ (by omega)]
  exact same_from x hx n (i + 1) k (by omega) (by omega)
theorem same_ev {x : List S43} (hx : x.length ≤ 1000000) {k : Nat} (hk : x.length < k) : lapidaryref09_Same.f k x x = some true := by
 unfold lapidaryref09_Same.f
 rw [if_pos rfl]
 exact same_from x hx x.length 0 k (by omega) hk
theorem k_parse : parseS kSrc = (kNode, 0, 0) := by
 have e : readS okNum kSrc = (kTs.map tk, 0, 0) := by
  unfold readS
  rw [if_pos (by decide), k_words]
 unfold parseS
 rw [e]
 simp only
 rw [if_pos trivial, show 16 * (kTs.map tk).length + 12 = 268 from rfl, k_unit]
 rfl
def kUses : List SP.Use := [⟨6, kA, 3, 0, 0, true⟩, ⟨17, kA, 3, 1, 0, false⟩, ⟨21, kBb, 3, 0, 0, false⟩, ⟨25, kR, 5, 0, 0, false⟩]
theorem k_resolved : lapidarylaw09_resolved.f kSrc false [] = some (kUses.map u29, 0, 0, true) := by
 unfold lapidarylaw09_resolved.f
 rw [k_parse]
 simp only [resolvedS]
 rw [if_neg (by decide), if_pos trivial, k_resolve]
 rfl
theorem known_ev {k : Nat} (hk : 10 ≤ k) : lapidarylaw09_known.f k = some true := by
 unfold lapidarylaw09_known.f
 rw [show (⟨#[124, 32, 97, 32, 124, 32, 97, 32, 58, 61, 32, 91, 58, 98, 32, 124, 32, 97, 32, 43, 32, 98, 32, 43, 32, 82, 111, 111, 116, 93]⟩ : ByteArray) = kSrc from rfl, k_resolved]
 simp only [Option.bind_some]
 rw [if_pos trivial, if_pos trivial, taken_ev (by simp [kUses]) (by simp [kUses]; omega)]
 simp only [Option.bind_some]
 have e : ((kUses.map u29).map t43) = ([(⟨6, (⟨#[97]⟩ : ByteArray), 3, 0, 0, true⟩ : S43), (⟨17, (⟨#[97]⟩ : ByteArray), 3, 1, 0, false⟩ : S43), (⟨21, (⟨#[98]⟩ : ByteArray), 3, 0, 0, false⟩ : S43), (⟨25, (⟨#[82, 111, 111, 116]⟩ : ByteArray), 5, 0, 0, false⟩ : S43)] : List (S43)) := rfl
 rw [e, same_ev (by simp) (by simp; omega)]
 rfl
end Go.Proofs.Ytpodpmjlkbbkoaa.P
