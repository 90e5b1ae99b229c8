/-
  No cell of these rows narrows 'for every input' (looked for: loops, veiled, ifaces, maps, wideKeys, modest, calm, conditions, laid).
  DERIVED. THE GIVEN ROWS OF THIS SEAT. 16 by the template 'for every input the law returns true; each argument reads behind the call as it read before'; 0 by the template 'total and deterministic' (their statements: YtfjbhccapgnkiaaTotals.lean).
  GIVEN WITH THE SEED: the statements are not yours to turn. If you find one false, say at which input.
  Laid BY PROGRAM, IN A SANDBOX (cutbox-rows.mjs): the forced cells as the released guide's own fill.sh prints them over the translation 15301ce7756a983e… (all of the seat's roots in one cut). By AI agents, Wed Nov 11 2026. No macro, syntax, notation, axiom, sorry.
-/
import Derived.Test.YtfjbhccapgnkiaaChecked
import GoSem.Claim
import GoSem.ClaimJoined
import GoSem.ClaimMapViews
import Derived.JoinedTies
import Derived.KernelRfl
namespace Go.Proofs.Ytfjbhccapgnkiaa
/- THE CELL 'sum', in the pinned program and in every row, IS THE sha256 OF THE DUMP (.gsa) THAT YtfjbhccapgnkiaaProg.lean LOADS. Nothing in Lean hashes anything: it is a label: what it is worth is what the hold of that sum in a sandbox is worth. -/
noncomputable def Try.pinned : Pinned := { name := "ytfjbhccapgnkiaa", sum := "15301ce7756a983e0031317f76f8d24dac75b4a79a8b4e3e7a21c11e5e921d2f", checked := Try.checked }
namespace Rows
def none {H : Type} : Left H := { results := [], args := [] }

/-- 'lapidarylaw02.WholeDivs': WHATEVER THE INPUT: true; the input reads as it did. -/
def wholeDivsSpec : ChangeSpec := { name := "wholeDivs", fn := fun _ => fun
  | [d1, d2] => { results := [.lit (.bool true)], args := [d1, d2] }
  | _ => none }
def wholeDivsRow : OpenClaim := { program := "ytfjbhccapgnkiaa", sum := "15301ce7756a983e0031317f76f8d24dac75b4a79a8b4e3e7a21c11e5e921d2f", func := "lapidary/lapidarylaw02.WholeDivs", spec := "wholeDivs", unfollowed := true, recurses := true, apart := false }
def WholeDivsSaid : Prop := wholeDivsRow.holds Try.pinned (OpenSpec.ofChange wholeDivsSpec)

/-- ITS FALSE NEIGHBOUR: 'it returns false'. Refute it at one input. -/
def wholeDivsWrong : ChangeSpec := { name := "wholeDivs", fn := fun _ => fun
  | [d1, d2] => { results := [.lit (.bool false)], args := [d1, d2] }
  | _ => none }
def WholeDivsWrongFalsely : Prop := wholeDivsRow.holds Try.pinned (OpenSpec.ofChange wholeDivsWrong)

/-- 'lapidarylaw02.WholeMuls': WHATEVER THE INPUT: true; the input reads as it did. -/
def wholeMulsSpec : ChangeSpec := { name := "wholeMuls", fn := fun _ => fun
  | [d1, d2] => { results := [.lit (.bool true)], args := [d1, d2] }
  | _ => none }
def wholeMulsRow : OpenClaim := { program := "ytfjbhccapgnkiaa", sum := "15301ce7756a983e0031317f76f8d24dac75b4a79a8b4e3e7a21c11e5e921d2f", func := "lapidary/lapidarylaw02.WholeMuls", spec := "wholeMuls", unfollowed := true, recurses := true, apart := false }
def WholeMulsSaid : Prop := wholeMulsRow.holds Try.pinned (OpenSpec.ofChange wholeMulsSpec)

/-- ITS FALSE NEIGHBOUR: 'it returns false'. Refute it at one input. -/
def wholeMulsWrong : ChangeSpec := { name := "wholeMuls", fn := fun _ => fun
  | [d1, d2] => { results := [.lit (.bool false)], args := [d1, d2] }
  | _ => none }
def WholeMulsWrongFalsely : Prop := wholeMulsRow.holds Try.pinned (OpenSpec.ofChange wholeMulsWrong)

/-- 'lapidarylaw02.WholeAdds': WHATEVER THE INPUT: true; the input reads as it did. -/
def wholeAddsSpec : ChangeSpec := { name := "wholeAdds", fn := fun _ => fun
  | [d1, d2] => { results := [.lit (.bool true)], args := [d1, d2] }
  | _ => none }
def wholeAddsRow : OpenClaim := { program := "ytfjbhccapgnkiaa", sum := "15301ce7756a983e0031317f76f8d24dac75b4a79a8b4e3e7a21c11e5e921d2f", func := "lapidary/lapidarylaw02.WholeAdds", spec := "wholeAdds", unfollowed := true, recurses := true, apart := false }
def WholeAddsSaid : Prop := wholeAddsRow.holds Try.pinned (OpenSpec.ofChange wholeAddsSpec)

/-- ITS FALSE NEIGHBOUR: 'it returns false'. Refute it at one input. -/
def wholeAddsWrong : ChangeSpec := { name := "wholeAdds", fn := fun _ => fun
  | [d1, d2] => { results := [.lit (.bool false)], args := [d1, d2] }
  | _ => none }
def WholeAddsWrongFalsely : Prop := wholeAddsRow.holds Try.pinned (OpenSpec.ofChange wholeAddsWrong)

/-- 'lapidarylaw02.WholeSmall': WHATEVER THE INPUT: true; the input reads as it did. -/
def wholeSmallSpec : ChangeSpec := { name := "wholeSmall", fn := fun _ => fun
  | [d1, d2, d3] => { results := [.lit (.bool true)], args := [d1, d2, d3] }
  | _ => none }
def wholeSmallRow : OpenClaim := { program := "ytfjbhccapgnkiaa", sum := "15301ce7756a983e0031317f76f8d24dac75b4a79a8b4e3e7a21c11e5e921d2f", func := "lapidary/lapidarylaw02.WholeSmall", spec := "wholeSmall", unfollowed := true, recurses := true, apart := false }
def WholeSmallSaid : Prop := wholeSmallRow.holds Try.pinned (OpenSpec.ofChange wholeSmallSpec)

/-- ITS FALSE NEIGHBOUR: 'it returns false'. Refute it at one input. -/
def wholeSmallWrong : ChangeSpec := { name := "wholeSmall", fn := fun _ => fun
  | [d1, d2, d3] => { results := [.lit (.bool false)], args := [d1, d2, d3] }
  | _ => none }
def WholeSmallWrongFalsely : Prop := wholeSmallRow.holds Try.pinned (OpenSpec.ofChange wholeSmallWrong)

/-- 'lapidarylaw02.WholeLeft': WHATEVER THE INPUT: true; the input reads as it did. -/
def wholeLeftSpec : ChangeSpec := { name := "wholeLeft", fn := fun _ => fun
  | [d1, d2] => { results := [.lit (.bool true)], args := [d1, d2] }
  | _ => none }
def wholeLeftRow : OpenClaim := { program := "ytfjbhccapgnkiaa", sum := "15301ce7756a983e0031317f76f8d24dac75b4a79a8b4e3e7a21c11e5e921d2f", func := "lapidary/lapidarylaw02.WholeLeft", spec := "wholeLeft", unfollowed := true, recurses := true, apart := false }
def WholeLeftSaid : Prop := wholeLeftRow.holds Try.pinned (OpenSpec.ofChange wholeLeftSpec)

/-- ITS FALSE NEIGHBOUR: 'it returns false'. Refute it at one input. -/
def wholeLeftWrong : ChangeSpec := { name := "wholeLeft", fn := fun _ => fun
  | [d1, d2] => { results := [.lit (.bool false)], args := [d1, d2] }
  | _ => none }
def WholeLeftWrongFalsely : Prop := wholeLeftRow.holds Try.pinned (OpenSpec.ofChange wholeLeftWrong)

/-- 'lapidarylaw02.WholeOrder': WHATEVER THE INPUT: true; the input reads as it did. -/
def wholeOrderSpec : ChangeSpec := { name := "wholeOrder", fn := fun _ => fun
  | [d1, d2, d3] => { results := [.lit (.bool true)], args := [d1, d2, d3] }
  | _ => none }
def wholeOrderRow : OpenClaim := { program := "ytfjbhccapgnkiaa", sum := "15301ce7756a983e0031317f76f8d24dac75b4a79a8b4e3e7a21c11e5e921d2f", func := "lapidary/lapidarylaw02.WholeOrder", spec := "wholeOrder", unfollowed := true, recurses := true, apart := false }
def WholeOrderSaid : Prop := wholeOrderRow.holds Try.pinned (OpenSpec.ofChange wholeOrderSpec)

/-- ITS FALSE NEIGHBOUR: 'it returns false'. Refute it at one input. -/
def wholeOrderWrong : ChangeSpec := { name := "wholeOrder", fn := fun _ => fun
  | [d1, d2, d3] => { results := [.lit (.bool false)], args := [d1, d2, d3] }
  | _ => none }
def WholeOrderWrongFalsely : Prop := wholeOrderRow.holds Try.pinned (OpenSpec.ofChange wholeOrderWrong)

/-- 'lapidarylaw02.WholeRing': WHATEVER THE INPUT: true; the input reads as it did. -/
def wholeRingSpec : ChangeSpec := { name := "wholeRing", fn := fun _ => fun
  | [d1, d2, d3] => { results := [.lit (.bool true)], args := [d1, d2, d3] }
  | _ => none }
def wholeRingRow : OpenClaim := { program := "ytfjbhccapgnkiaa", sum := "15301ce7756a983e0031317f76f8d24dac75b4a79a8b4e3e7a21c11e5e921d2f", func := "lapidary/lapidarylaw02.WholeRing", spec := "wholeRing", unfollowed := true, recurses := true, apart := false }
def WholeRingSaid : Prop := wholeRingRow.holds Try.pinned (OpenSpec.ofChange wholeRingSpec)

/-- ITS FALSE NEIGHBOUR: 'it returns false'. Refute it at one input. -/
def wholeRingWrong : ChangeSpec := { name := "wholeRing", fn := fun _ => fun
  | [d1, d2, d3] => { results := [.lit (.bool false)], args := [d1, d2, d3] }
  | _ => none }
def WholeRingWrongFalsely : Prop := wholeRingRow.holds Try.pinned (OpenSpec.ofChange wholeRingWrong)

/-- 'lapidarylaw02.WholeTexts': WHATEVER THE INPUT: true; the input reads as it did. -/
def wholeTextsSpec : ChangeSpec := { name := "wholeTexts", fn := fun _ => fun
  | [d1, d2] => { results := [.lit (.bool true)], args := [d1, d2] }
  | _ => none }
def wholeTextsRow : OpenClaim := { program := "ytfjbhccapgnkiaa", sum := "15301ce7756a983e0031317f76f8d24dac75b4a79a8b4e3e7a21c11e5e921d2f", func := "lapidary/lapidarylaw02.WholeTexts", spec := "wholeTexts", unfollowed := true, recurses := true, apart := false }
def WholeTextsSaid : Prop := wholeTextsRow.holds Try.pinned (OpenSpec.ofChange wholeTextsSpec)

/-- ITS FALSE NEIGHBOUR: 'it returns false'. Refute it at one input. -/
def wholeTextsWrong : ChangeSpec := { name := "wholeTexts", fn := fun _ => fun
  | [d1, d2] => { results := [.lit (.bool false)], args := [d1, d2] }
  | _ => none }
def WholeTextsWrongFalsely : Prop := wholeTextsRow.holds Try.pinned (OpenSpec.ofChange wholeTextsWrong)

/-- 'lapidarylaw06.NumberDoes': WHATEVER THE INPUT: true; the input reads as it did. -/
def numberDoesSpec : ChangeSpec := { name := "numberDoes", fn := fun _ => fun
  | [d1, d2, d3] => { results := [.lit (.bool true)], args := [d1, d2, d3] }
  | _ => none }
def numberDoesRow : OpenClaim := { program := "ytfjbhccapgnkiaa", sum := "15301ce7756a983e0031317f76f8d24dac75b4a79a8b4e3e7a21c11e5e921d2f", func := "lapidary/lapidarylaw06.NumberDoes", spec := "numberDoes", inPlace := ["math.Float64frombits", "math.Float64bits"], unfollowed := true, recurses := true, apart := false }
def NumberDoesSaid : Prop := numberDoesRow.holds Try.pinned (OpenSpec.ofChange numberDoesSpec)

/-- ITS FALSE NEIGHBOUR: 'it returns false'. Refute it at one input. -/
def numberDoesWrong : ChangeSpec := { name := "numberDoes", fn := fun _ => fun
  | [d1, d2, d3] => { results := [.lit (.bool false)], args := [d1, d2, d3] }
  | _ => none }
def NumberDoesWrongFalsely : Prop := numberDoesRow.holds Try.pinned (OpenSpec.ofChange numberDoesWrong)

/-- 'lapidarylaw06.NumberTurned': WHATEVER THE INPUT: true; the input reads as it did. -/
def numberTurnedSpec : ChangeSpec := { name := "numberTurned", fn := fun _ => fun
  | [d1, d2] => { results := [.lit (.bool true)], args := [d1, d2] }
  | _ => none }
def numberTurnedRow : OpenClaim := { program := "ytfjbhccapgnkiaa", sum := "15301ce7756a983e0031317f76f8d24dac75b4a79a8b4e3e7a21c11e5e921d2f", func := "lapidary/lapidarylaw06.NumberTurned", spec := "numberTurned", inPlace := ["math.Float64frombits", "math.Float64bits"], unfollowed := true, recurses := true, apart := false }
def NumberTurnedSaid : Prop := numberTurnedRow.holds Try.pinned (OpenSpec.ofChange numberTurnedSpec)

/-- ITS FALSE NEIGHBOUR: 'it returns false'. Refute it at one input. -/
def numberTurnedWrong : ChangeSpec := { name := "numberTurned", fn := fun _ => fun
  | [d1, d2] => { results := [.lit (.bool false)], args := [d1, d2] }
  | _ => none }
def NumberTurnedWrongFalsely : Prop := numberTurnedRow.holds Try.pinned (OpenSpec.ofChange numberTurnedWrong)

/-- 'lapidarylaw06.NumberOwn': WHATEVER THE INPUT: true; the input reads as it did. -/
def numberOwnSpec : ChangeSpec := { name := "numberOwn", fn := fun _ => fun
  | [d1, d2] => { results := [.lit (.bool true)], args := [d1, d2] }
  | _ => none }
def numberOwnRow : OpenClaim := { program := "ytfjbhccapgnkiaa", sum := "15301ce7756a983e0031317f76f8d24dac75b4a79a8b4e3e7a21c11e5e921d2f", func := "lapidary/lapidarylaw06.NumberOwn", spec := "numberOwn", inPlace := ["math.Float64frombits", "math.Float64bits"], unfollowed := true, recurses := true, apart := false }
def NumberOwnSaid : Prop := numberOwnRow.holds Try.pinned (OpenSpec.ofChange numberOwnSpec)

/-- ITS FALSE NEIGHBOUR: 'it returns false'. Refute it at one input. -/
def numberOwnWrong : ChangeSpec := { name := "numberOwn", fn := fun _ => fun
  | [d1, d2] => { results := [.lit (.bool false)], args := [d1, d2] }
  | _ => none }
def NumberOwnWrongFalsely : Prop := numberOwnRow.holds Try.pinned (OpenSpec.ofChange numberOwnWrong)

/-- 'lapidarylaw06.NumberBack': WHATEVER THE INPUT: true; the input reads as it did. -/
def numberBackSpec : ChangeSpec := { name := "numberBack", fn := fun _ => fun
  | [d1, d2, d3, d4] => { results := [.lit (.bool true)], args := [d1, d2, d3, d4] }
  | _ => none }
def numberBackRow : OpenClaim := { program := "ytfjbhccapgnkiaa", sum := "15301ce7756a983e0031317f76f8d24dac75b4a79a8b4e3e7a21c11e5e921d2f", func := "lapidary/lapidarylaw06.NumberBack", spec := "numberBack", inPlace := ["math.Float64frombits", "math.Float64bits"], unfollowed := true, recurses := true, apart := false }
def NumberBackSaid : Prop := numberBackRow.holds Try.pinned (OpenSpec.ofChange numberBackSpec)

/-- ITS FALSE NEIGHBOUR: 'it returns false'. Refute it at one input. -/
def numberBackWrong : ChangeSpec := { name := "numberBack", fn := fun _ => fun
  | [d1, d2, d3, d4] => { results := [.lit (.bool false)], args := [d1, d2, d3, d4] }
  | _ => none }
def NumberBackWrongFalsely : Prop := numberBackRow.holds Try.pinned (OpenSpec.ofChange numberBackWrong)

/-- 'lapidarylaw06.NumberBytes': WHATEVER THE INPUT: true; the input reads as it did. -/
def numberBytesSpec : ChangeSpec := { name := "numberBytes", fn := fun _ => fun
  | [d1, d2] => { results := [.lit (.bool true)], args := [d1, d2] }
  | _ => none }
def numberBytesRow : OpenClaim := { program := "ytfjbhccapgnkiaa", sum := "15301ce7756a983e0031317f76f8d24dac75b4a79a8b4e3e7a21c11e5e921d2f", func := "lapidary/lapidarylaw06.NumberBytes", spec := "numberBytes", inPlace := ["math.Float64frombits", "math.Float64bits"], unfollowed := true, recurses := true, apart := false }
def NumberBytesSaid : Prop := numberBytesRow.holds Try.pinned (OpenSpec.ofChange numberBytesSpec)

/-- ITS FALSE NEIGHBOUR: 'it returns false'. Refute it at one input. -/
def numberBytesWrong : ChangeSpec := { name := "numberBytes", fn := fun _ => fun
  | [d1, d2] => { results := [.lit (.bool false)], args := [d1, d2] }
  | _ => none }
def NumberBytesWrongFalsely : Prop := numberBytesRow.holds Try.pinned (OpenSpec.ofChange numberBytesWrong)

/-- 'lapidarylaw09.ScopeMore': WHATEVER THE INPUT: true; the input reads as it did. -/
def scopeMoreSpec : ChangeSpec := { name := "scopeMore", fn := fun _ => fun
  | [d1, d2, d3] => { results := [.lit (.bool true)], args := [d1, d2, d3] }
  | _ => none }
def scopeMoreRow : OpenClaim := { program := "ytfjbhccapgnkiaa", sum := "15301ce7756a983e0031317f76f8d24dac75b4a79a8b4e3e7a21c11e5e921d2f", func := "lapidary/lapidarylaw09.ScopeMore", spec := "scopeMore", inPlace := ["internal/bytealg.IndexByteString", "internal/abi.NoEscape"], unfollowed := true, recurses := true, apart := false }
def ScopeMoreSaid : Prop := scopeMoreRow.holds Try.pinned (OpenSpec.ofChange scopeMoreSpec)

/-- ITS FALSE NEIGHBOUR: 'it returns false'. Refute it at one input. -/
def scopeMoreWrong : ChangeSpec := { name := "scopeMore", fn := fun _ => fun
  | [d1, d2, d3] => { results := [.lit (.bool false)], args := [d1, d2, d3] }
  | _ => none }
def ScopeMoreWrongFalsely : Prop := scopeMoreRow.holds Try.pinned (OpenSpec.ofChange scopeMoreWrong)

/-- 'lapidarylaw09.ScopeWithin': WHATEVER THE INPUT: true; the input reads as it did. -/
def scopeWithinSpec : ChangeSpec := { name := "scopeWithin", fn := fun _ => fun
  | [d1, d2] => { results := [.lit (.bool true)], args := [d1, d2] }
  | _ => none }
def scopeWithinRow : OpenClaim := { program := "ytfjbhccapgnkiaa", sum := "15301ce7756a983e0031317f76f8d24dac75b4a79a8b4e3e7a21c11e5e921d2f", func := "lapidary/lapidarylaw09.ScopeWithin", spec := "scopeWithin", inPlace := ["internal/bytealg.IndexByteString", "internal/abi.NoEscape"], unfollowed := true, recurses := true, apart := false }
def ScopeWithinSaid : Prop := scopeWithinRow.holds Try.pinned (OpenSpec.ofChange scopeWithinSpec)

/-- ITS FALSE NEIGHBOUR: 'it returns false'. Refute it at one input. -/
def scopeWithinWrong : ChangeSpec := { name := "scopeWithin", fn := fun _ => fun
  | [d1, d2] => { results := [.lit (.bool false)], args := [d1, d2] }
  | _ => none }
def ScopeWithinWrongFalsely : Prop := scopeWithinRow.holds Try.pinned (OpenSpec.ofChange scopeWithinWrong)

/-- 'lapidarylaw09.ScopePlaces': WHATEVER THE INPUT: true; the input reads as it did. -/
def scopePlacesSpec : ChangeSpec := { name := "scopePlaces", fn := fun _ => fun
  | [d1, d2, d3] => { results := [.lit (.bool true)], args := [d1, d2, d3] }
  | _ => none }
def scopePlacesRow : OpenClaim := { program := "ytfjbhccapgnkiaa", sum := "15301ce7756a983e0031317f76f8d24dac75b4a79a8b4e3e7a21c11e5e921d2f", func := "lapidary/lapidarylaw09.ScopePlaces", spec := "scopePlaces", inPlace := ["internal/bytealg.IndexByteString", "internal/abi.NoEscape"], unfollowed := true, recurses := true, apart := false }
def ScopePlacesSaid : Prop := scopePlacesRow.holds Try.pinned (OpenSpec.ofChange scopePlacesSpec)

/-- ITS FALSE NEIGHBOUR: 'it returns false'. Refute it at one input. -/
def scopePlacesWrong : ChangeSpec := { name := "scopePlaces", fn := fun _ => fun
  | [d1, d2, d3] => { results := [.lit (.bool false)], args := [d1, d2, d3] }
  | _ => none }
def ScopePlacesWrongFalsely : Prop := scopePlacesRow.holds Try.pinned (OpenSpec.ofChange scopePlacesWrong)

/- THE SECOND FORM. 'bulk': how many values and letters a reading holds, each counted each time it is reached (what is shared counts as often as it is met; a slice's spare places count too). A statement '..UptoSaid' is the law's where the arguments, and the package variables that the reading takes, are together of bulk at most 1048576: NARROWER than '..Said'. Prove '..Said' where nothing that the law and all that it calls make is longer than what came in: it says more and counts as full. Else prove '..UptoSaid'. A law counts once. -/
mutual
def uptoBulk {H : Type} : DataW H → Nat
  | .lit (.string bytes) => bytes.length + 1
  | .lit _ => 1
  | .nil => 1
  | .ptr d => uptoBulk d + 1
  | .slice elems spare => uptoBulkAll elems + uptoBulkAll spare + 1
  | .agg parts => uptoBulkAll parts + 1
  | .iface _ d => uptoBulk d + 1
  | .map entries => uptoBulkEntries entries + 1
  | .held _ => 1
def uptoBulkAll {H : Type} : List (DataW H) → Nat
  | [] => 0
  | d :: r => uptoBulk d + uptoBulkAll r
def uptoBulkEntries {H : Type} : List (Lit × DataW H) → Nat
  | [] => 0
  | x :: r => uptoBulkEntry x + uptoBulkEntries r
def uptoBulkEntry {H : Type} : Lit × DataW H → Nat
  | (.string bytes, d) => bytes.length + uptoBulk d + 1
  | (_, d) => uptoBulk d + 1
 end
def uptoSmall : (H : Type) → List (DataW H) → Bool := fun _ ds => decide (uptoBulkAll ds ≤ 1048576)
def OpenSpec.upto (s : _root_.Go.ChangeSpec) : _root_.Go.OpenSpec := { _root_.Go.OpenSpec.ofChange s with cond := some uptoSmall }

/-- 'lapidarylaw02.WholeDivs', WHERE WHAT IT READS IS OF BULK AT MOST 1048576: true; the input reads as it did. -/
def wholeDivsUptoRow : OpenClaim := { program := "ytfjbhccapgnkiaa", sum := "15301ce7756a983e0031317f76f8d24dac75b4a79a8b4e3e7a21c11e5e921d2f", func := "lapidary/lapidarylaw02.WholeDivs", spec := "wholeDivs", unfollowed := true, recurses := true, apart := false, narrowed := true }
def WholeDivsUptoSaid : Prop := wholeDivsUptoRow.holds Try.pinned (OpenSpec.upto wholeDivsSpec)

/-- 'lapidarylaw02.WholeMuls', WHERE WHAT IT READS IS OF BULK AT MOST 1048576: true; the input reads as it did. -/
def wholeMulsUptoRow : OpenClaim := { program := "ytfjbhccapgnkiaa", sum := "15301ce7756a983e0031317f76f8d24dac75b4a79a8b4e3e7a21c11e5e921d2f", func := "lapidary/lapidarylaw02.WholeMuls", spec := "wholeMuls", unfollowed := true, recurses := true, apart := false, narrowed := true }
def WholeMulsUptoSaid : Prop := wholeMulsUptoRow.holds Try.pinned (OpenSpec.upto wholeMulsSpec)

/-- 'lapidarylaw02.WholeAdds', WHERE WHAT IT READS IS OF BULK AT MOST 1048576: true; the input reads as it did. -/
def wholeAddsUptoRow : OpenClaim := { program := "ytfjbhccapgnkiaa", sum := "15301ce7756a983e0031317f76f8d24dac75b4a79a8b4e3e7a21c11e5e921d2f", func := "lapidary/lapidarylaw02.WholeAdds", spec := "wholeAdds", unfollowed := true, recurses := true, apart := false, narrowed := true }
def WholeAddsUptoSaid : Prop := wholeAddsUptoRow.holds Try.pinned (OpenSpec.upto wholeAddsSpec)

/-- 'lapidarylaw02.WholeSmall', WHERE WHAT IT READS IS OF BULK AT MOST 1048576: true; the input reads as it did. -/
def wholeSmallUptoRow : OpenClaim := { program := "ytfjbhccapgnkiaa", sum := "15301ce7756a983e0031317f76f8d24dac75b4a79a8b4e3e7a21c11e5e921d2f", func := "lapidary/lapidarylaw02.WholeSmall", spec := "wholeSmall", unfollowed := true, recurses := true, apart := false, narrowed := true }
def WholeSmallUptoSaid : Prop := wholeSmallUptoRow.holds Try.pinned (OpenSpec.upto wholeSmallSpec)

/-- 'lapidarylaw02.WholeLeft', WHERE WHAT IT READS IS OF BULK AT MOST 1048576: true; the input reads as it did. -/
def wholeLeftUptoRow : OpenClaim := { program := "ytfjbhccapgnkiaa", sum := "15301ce7756a983e0031317f76f8d24dac75b4a79a8b4e3e7a21c11e5e921d2f", func := "lapidary/lapidarylaw02.WholeLeft", spec := "wholeLeft", unfollowed := true, recurses := true, apart := false, narrowed := true }
def WholeLeftUptoSaid : Prop := wholeLeftUptoRow.holds Try.pinned (OpenSpec.upto wholeLeftSpec)

/-- 'lapidarylaw02.WholeOrder', WHERE WHAT IT READS IS OF BULK AT MOST 1048576: true; the input reads as it did. -/
def wholeOrderUptoRow : OpenClaim := { program := "ytfjbhccapgnkiaa", sum := "15301ce7756a983e0031317f76f8d24dac75b4a79a8b4e3e7a21c11e5e921d2f", func := "lapidary/lapidarylaw02.WholeOrder", spec := "wholeOrder", unfollowed := true, recurses := true, apart := false, narrowed := true }
def WholeOrderUptoSaid : Prop := wholeOrderUptoRow.holds Try.pinned (OpenSpec.upto wholeOrderSpec)

/-- 'lapidarylaw02.WholeRing', WHERE WHAT IT READS IS OF BULK AT MOST 1048576: true; the input reads as it did. -/
def wholeRingUptoRow : OpenClaim := { program := "ytfjbhccapgnkiaa", sum := "15301ce7756a983e0031317f76f8d24dac75b4a79a8b4e3e7a21c11e5e921d2f", func := "lapidary/lapidarylaw02.WholeRing", spec := "wholeRing", unfollowed := true, recurses := true, apart := false, narrowed := true }
def WholeRingUptoSaid : Prop := wholeRingUptoRow.holds Try.pinned (OpenSpec.upto wholeRingSpec)

/-- 'lapidarylaw02.WholeTexts', WHERE WHAT IT READS IS OF BULK AT MOST 1048576: true; the input reads as it did. -/
def wholeTextsUptoRow : OpenClaim := { program := "ytfjbhccapgnkiaa", sum := "15301ce7756a983e0031317f76f8d24dac75b4a79a8b4e3e7a21c11e5e921d2f", func := "lapidary/lapidarylaw02.WholeTexts", spec := "wholeTexts", unfollowed := true, recurses := true, apart := false, narrowed := true }
def WholeTextsUptoSaid : Prop := wholeTextsUptoRow.holds Try.pinned (OpenSpec.upto wholeTextsSpec)

/-- 'lapidarylaw06.NumberDoes', WHERE WHAT IT READS IS OF BULK AT MOST 1048576: true; the input reads as it did. -/
def numberDoesUptoRow : OpenClaim := { program := "ytfjbhccapgnkiaa", sum := "15301ce7756a983e0031317f76f8d24dac75b4a79a8b4e3e7a21c11e5e921d2f", func := "lapidary/lapidarylaw06.NumberDoes", spec := "numberDoes", inPlace := ["math.Float64frombits", "math.Float64bits"], unfollowed := true, recurses := true, apart := false, narrowed := true }
def NumberDoesUptoSaid : Prop := numberDoesUptoRow.holds Try.pinned (OpenSpec.upto numberDoesSpec)

/-- 'lapidarylaw06.NumberTurned', WHERE WHAT IT READS IS OF BULK AT MOST 1048576: true; the input reads as it did. -/
def numberTurnedUptoRow : OpenClaim := { program := "ytfjbhccapgnkiaa", sum := "15301ce7756a983e0031317f76f8d24dac75b4a79a8b4e3e7a21c11e5e921d2f", func := "lapidary/lapidarylaw06.NumberTurned", spec := "numberTurned", inPlace := ["math.Float64frombits", "math.Float64bits"], unfollowed := true, recurses := true, apart := false, narrowed := true }
def NumberTurnedUptoSaid : Prop := numberTurnedUptoRow.holds Try.pinned (OpenSpec.upto numberTurnedSpec)

/-- 'lapidarylaw06.NumberOwn', WHERE WHAT IT READS IS OF BULK AT MOST 1048576: true; the input reads as it did. -/
def numberOwnUptoRow : OpenClaim := { program := "ytfjbhccapgnkiaa", sum := "15301ce7756a983e0031317f76f8d24dac75b4a79a8b4e3e7a21c11e5e921d2f", func := "lapidary/lapidarylaw06.NumberOwn", spec := "numberOwn", inPlace := ["math.Float64frombits", "math.Float64bits"], unfollowed := true, recurses := true, apart := false, narrowed := true }
def NumberOwnUptoSaid : Prop := numberOwnUptoRow.holds Try.pinned (OpenSpec.upto numberOwnSpec)

/-- 'lapidarylaw06.NumberBack', WHERE WHAT IT READS IS OF BULK AT MOST 1048576: true; the input reads as it did. -/
def numberBackUptoRow : OpenClaim := { program := "ytfjbhccapgnkiaa", sum := "15301ce7756a983e0031317f76f8d24dac75b4a79a8b4e3e7a21c11e5e921d2f", func := "lapidary/lapidarylaw06.NumberBack", spec := "numberBack", inPlace := ["math.Float64frombits", "math.Float64bits"], unfollowed := true, recurses := true, apart := false, narrowed := true }
def NumberBackUptoSaid : Prop := numberBackUptoRow.holds Try.pinned (OpenSpec.upto numberBackSpec)

/-- 'lapidarylaw06.NumberBytes', WHERE WHAT IT READS IS OF BULK AT MOST 1048576: true; the input reads as it did. -/
def numberBytesUptoRow : OpenClaim := { program := "ytfjbhccapgnkiaa", sum := "15301ce7756a983e0031317f76f8d24dac75b4a79a8b4e3e7a21c11e5e921d2f", func := "lapidary/lapidarylaw06.NumberBytes", spec := "numberBytes", inPlace := ["math.Float64frombits", "math.Float64bits"], unfollowed := true, recurses := true, apart := false, narrowed := true }
def NumberBytesUptoSaid : Prop := numberBytesUptoRow.holds Try.pinned (OpenSpec.upto numberBytesSpec)

/-- 'lapidarylaw09.ScopeMore', WHERE WHAT IT READS IS OF BULK AT MOST 1048576: true; the input reads as it did. -/
def scopeMoreUptoRow : OpenClaim := { program := "ytfjbhccapgnkiaa", sum := "15301ce7756a983e0031317f76f8d24dac75b4a79a8b4e3e7a21c11e5e921d2f", func := "lapidary/lapidarylaw09.ScopeMore", spec := "scopeMore", inPlace := ["internal/bytealg.IndexByteString", "internal/abi.NoEscape"], unfollowed := true, recurses := true, apart := false, narrowed := true }
def ScopeMoreUptoSaid : Prop := scopeMoreUptoRow.holds Try.pinned (OpenSpec.upto scopeMoreSpec)

/-- 'lapidarylaw09.ScopeWithin', WHERE WHAT IT READS IS OF BULK AT MOST 1048576: true; the input reads as it did. -/
def scopeWithinUptoRow : OpenClaim := { program := "ytfjbhccapgnkiaa", sum := "15301ce7756a983e0031317f76f8d24dac75b4a79a8b4e3e7a21c11e5e921d2f", func := "lapidary/lapidarylaw09.ScopeWithin", spec := "scopeWithin", inPlace := ["internal/bytealg.IndexByteString", "internal/abi.NoEscape"], unfollowed := true, recurses := true, apart := false, narrowed := true }
def ScopeWithinUptoSaid : Prop := scopeWithinUptoRow.holds Try.pinned (OpenSpec.upto scopeWithinSpec)

/-- 'lapidarylaw09.ScopePlaces', WHERE WHAT IT READS IS OF BULK AT MOST 1048576: true; the input reads as it did. -/
def scopePlacesUptoRow : OpenClaim := { program := "ytfjbhccapgnkiaa", sum := "15301ce7756a983e0031317f76f8d24dac75b4a79a8b4e3e7a21c11e5e921d2f", func := "lapidary/lapidarylaw09.ScopePlaces", spec := "scopePlaces", inPlace := ["internal/bytealg.IndexByteString", "internal/abi.NoEscape"], unfollowed := true, recurses := true, apart := false, narrowed := true }
def ScopePlacesUptoSaid : Prop := scopePlacesUptoRow.holds Try.pinned (OpenSpec.upto scopePlacesSpec)

end Rows
end Go.Proofs.Ytfjbhccapgnkiaa
