import Derived.Test.YtfjbhccapgnkiaaU4a
import Derived.Test.YtfjbhccapgnkiaaU4b
namespace Go.Proofs.Ytfjbhccapgnkiaa.P
open Go.RowKit Go.Proofs.YtfjbhccapgnkiaaW.PrintWords Go.Proofs.YtfjbhccapgnkiaaW.PrintLast Go.Proofs.YtfjbhccapgnkiaaW.PrintMore
attribute [local go_sem] max2_int min2_int max_two min_two max_three min_three max_four min_four
set_option linter.unusedVariables false
set_option linter.unusedSimpArgs false

open Lap

/-- The plain law of WholeDivs. -/
theorem divs_plain (xn yn : Bool) (x y : List Int) (hx : IsB x) (hy : IsB y) : ∃ (k1 k2 k3 k4 : Nat) (zn : Bool) (lz : List Int) (er : Int) (vn : Bool) (lv : List Int) (es : Int),
    whole_Div.f k1 xn x yn y = some (zn, lz, er) ∧ lapidaryref02_Div.f k2 xn x yn y = some (zn, lz, er) ∧ lz.length ≤ 140737488355328 ∧ whole_Mod.f k3 xn x yn y = some (vn, lv, es) ∧ lapidaryref02_Mod.f k4 xn x yn y = some (vn, lv, es) ∧ lv.length ≤ 140737488355328 := by
  obtain ⟨k1, h1⟩ := (divide_ev xn yn x y hx hy).rounds
  obtain ⟨k2, h2⟩ := (rboth_ev xn yn x y hx hy).rounds
  obtain ⟨g1, g2⟩ := divS_len xn yn x y hx hy
  refine ⟨k1, k2, k1, k2, (divS xn x yn y).1, (divS xn x yn y).2.1, (divS xn x yn y).2.2.2.2, (divS xn x yn y).2.2.1, (divS xn x yn y).2.2.2.1, (divS xn x yn y).2.2.2.2, ?_, ?_, g1, ?_, ?_, g2⟩
  · unfold whole_Div.f; rw [h1]; rfl
  · unfold lapidaryref02_Div.f; rw [h2]; rfl
  · unfold whole_Mod.f; rw [h1]; rfl
  · unfold lapidaryref02_Mod.f; rw [h2]; rfl

end Go.Proofs.Ytfjbhccapgnkiaa.P
