import Derived.Test.YtfjbhccapgnkiaaA1
import Derived.Laws.FloatArith
import Derived.Laws.ComplexArith
import Derived.Laws.Externs
import Derived.WalkLawsBesides
namespace Go.Proofs.Ytfjbhccapgnkiaa.P
open Go.RowKit Go.Proofs.YtfjbhccapgnkiaaW.PrintWords Go.Proofs.YtfjbhccapgnkiaaW.PrintLast Go.Proofs.YtfjbhccapgnkiaaW.PrintMore
attribute [local go_sem] max2_int min2_int max_two min_two max_three min_three max_four min_four
set_option linter.unusedVariables false
set_option linter.unusedSimpArgs false

/-! ### Floats: what an operation may give -/
/-- Is this word no number? -/
def isN (b : Nat) : Prop := (Ieee.double.read b).isNaN = true
/-- What an operation on two floats may give: the word that is laid down, or any that is no number. -/
def FO (op : BinOp) (x y r : Nat) : Prop := match floatBits op .f64 x y with | some v => r = v | none => isN r ∧ r < 18446744073709551616
theorem isN_nan (s f : Nat) (hs : s < 2) (hf : f < 4503599627370495) : isN (s * 9223372036854775808 + 9218868437227405312 + 1 + f) := by
  unfold isN Ieee.Format.read
  have h1 : Ieee.double.signWeight = 9223372036854775808 := by decide
  have h2 : Ieee.double.binade = 4503599627370496 := by decide
  have h3 : Ieee.double.infRung = 9218868437227405312 := by decide
  have h4 : (s * 9223372036854775808 + 9218868437227405312 + 1 + f) % 9223372036854775808 = 9218868437227405312 + 1 + f := by omega
  simp only [h1, h2, h3, h4]
  rw [if_neg (by omega), if_neg (by omega), if_neg (by omega)]
  rfl
theorem run_f64 (op : BinOp) (hop : op = .add ∨ op = .sub ∨ op = .mul ∨ op = .quo) (t : TypeId) (x y : Nat) (W : World) : ∃ r n, (binOp op t (.float .f64 x) (.float .f64 y)).run Try.prog W = .ok (.float .f64 r) (W.drewN n) ∧ FO op x y r := by
  unfold FO
  cases h : floatBits op .f64 x y with
  | some v => exact ⟨v, 0, by rw [run_float_arith W op t .f64 x y v h]; rfl, rfl⟩
  | none =>
    refine ⟨(Question.nanBits .f64 x y).cut (W.tape W.drawn (Question.nanBits .f64 x y)), 1, ?_, ?_, ?_⟩
    · unfold floatBits at h
      rcases hop with rfl | rfl | rfl | rfl <;> simp only at h <;> simp [binOp, Op.floatArith, h, Question.forced] <;> rfl
    · generalize W.tape W.drawn (Question.nanBits .f64 x y) = q
      have := isN_nan (q % 2) ((q / 2) % 4503599627370495) (by omega) (by omega)
      exact this
    · generalize W.tape W.drawn (Question.nanBits .f64 x y) = q
      show (q % 2) * 2 ^ 63 + 0x7ff0000000000000 + 1 + (q / 2) % (2 ^ 52 - 1) < 18446744073709551616
      omega
theorem float_event {rest : List Oper} {ops : Array Oper} {Q : Exit → Act → World → Prop} {o : Oper} {a : Act} {W : World} (hgd : o.guard = none) {op : BinOp} {t t2 : TypeId} {x y : Operand} {p q : Nat} (ho : o.op = .binOp op t x y t2) (hop : op = .add ∨ op = .sub ∨ op = .mul ∨ op = .quo)
    (hx : a.eval x = .float .f64 p) (hy : a.eval y = .float .f64 q) (h : ∀ r w1, FO op p q r → Below W.heap.size W w1 → wpList Try.prog ops Q rest (a.put o.dst (.float .f64 r)) w1) : wpList Try.prog ops Q (o :: rest) a W := by
  obtain ⟨r, n, hr, hf⟩ := run_f64 op hop t p q W
  have hrun : (execOp a.eval o).run Try.prog W = .ok (.value (.float .f64 r)) (W.drewN n) := by
    unfold execOp
    rw [ho]
    simp only [hx, hy]
    rcases hop with rfl | rfl | rfl | rfl <;> simp [eqGuard, hr, Result.andThen]
  exact Kd.event_run hgd hrun (h r _ hf (by apply pw_below_drewN; exact Below.refl _ _))
/-- The same, as a truth. -/
def nanB (b : Nat) : Bool := (Ieee.double.read b).isNaN
theorem isN_iff (b : Nat) : isN b ↔ nanB b = true := Iff.rfl
theorem order_self (d : Ieee.Datum) : d.order d = if d.isNaN = true then none else some .eq := by
  cases d with
  | number s m e => simp only [Ieee.Datum.order, Ieee.Datum.isNaN]; simp
  | infinity s => simp only [Ieee.Datum.order, Ieee.Datum.isNaN]; simp
  | nan s f => rfl
theorem nan_eq (b : Nat) : (FloatKind.f64.format.order b b != some Ordering.eq) = nanB b := by
  have h : FloatKind.f64.format.order b b = if nanB b = true then none else some .eq := order_self _
  rw [h]
  cases nanB b <;> rfl
theorem f64bits_run (b : Nat) (w : World) : (callFunc 102 #[.float .f64 b]).run Try.prog w = .ok (.value (.int .u64 (b : Int))) w := by
  rw [run_callFunc_extern (e := Extern.MathFloatBits.float64bits) Try.func102 (by kernel_rfl) (by kernel_rfl) (by kernel_rfl) (by kernel_rfl)]
  rfl
theorem f64from_run (n : Int) (w : World) : (callFunc 104 #[.int .u64 n]).run Try.prog w = .ok (.value (.float .f64 n.toNat)) w := by
  rw [run_callFunc_extern (e := Extern.MathFloatBits.float64frombits) Try.func104 (by kernel_rfl) (by kernel_rfl) (by kernel_rfl) (by kernel_rfl)]
  rfl
set_option maxHeartbeats 4000000 in
set_option maxRecDepth 100000 in
theorem math_IsNaN.calls (b : Nat) (w : World) : Calls Try.prog 137 #[.float .f64 b] w fun e w' => e = .returned (.bool (nanB b)) ∧ Drawn0 w w' := by
  go_enter Try.func137, Try.ntmps137
  go_wp2
  go_ret
  exact ⟨congrArg (fun q => Ending.returned (Value.bool q)) (nan_eq b), Drawn0.refl _⟩
set_option maxHeartbeats 4000000 in
set_option maxRecDepth 100000 in
theorem math_NaN.calls (w : World) : Calls Try.prog 138 #[] w fun e w' => e = .returned (.float .f64 9221120237041090561) ∧ Drawn0 w w' := by
  have h1 := fun w => f64from_run 9221120237041090561 w
  go_enter Try.func138, Try.ntmps138
  go_wp2
  go_ret
  exact ⟨rfl, Drawn0.refl _⟩
/-- A float's word, one for all that are no number. -/
def bitsN (b : Nat) : Nat := if nanB b = true then 9221120237041090561 else b
set_option maxHeartbeats 4000000 in
set_option maxRecDepth 100000 in
theorem number_bits.calls (b : Nat) (w : World) : Calls Try.prog 125 #[.float .f64 b] w fun e w' => e = .returned (.int .u64 (bitsN b : Int)) ∧ Below w.heap.size w w' := by
  have h1 := fun b w => f64bits_run b w
  cases hb : nanB b
  · have hn := math_IsNaN.calls b
    rw [hb] at hn
    have e : bitsN b = b := by unfold bitsN; rw [hb]; rfl
    rw [e]
    go_enter Try.func125, Try.ntmps125
    go_wp2_with (go_at_call 137; refine (hn _).mono ?_; rintro e w' ⟨rfl, ⟨nd, rfl⟩⟩)
    go_ret
    exact ⟨rfl, by apply pw_below_drewN; exact Below.refl _ _⟩
  · have hn := math_IsNaN.calls b
    rw [hb] at hn
    have e : bitsN b = 9221120237041090561 := by unfold bitsN; rw [hb]; rfl
    rw [e]
    go_enter Try.func125, Try.ntmps125
    go_wp2_with (first
      | (go_at_call 137; refine (hn _).mono ?_; rintro e w' ⟨rfl, ⟨nd, rfl⟩⟩)
      | (go_at_call 138; refine (math_NaN.calls _).mono ?_; rintro e w' ⟨rfl, ⟨nd, rfl⟩⟩))
    go_ret
    exact ⟨rfl, by repeat (first | exact Below.refl _ _ | apply pw_below_drewN)⟩
theorem stC (P : Program) (w : World) (a : Addr) (k : FloatKind) (u v : Nat) (m : Mode) : (store a (.complex k u v) m).run P w = stored P w a (.complex k u v) m := run_store P w a _ m rfl
theorem stF (P : Program) (w : World) (a : Addr) (k : FloatKind) (u : Nat) (m : Mode) : (store a (.float k u) m).run P w = stored P w a (.float k u) m := run_store P w a _ m rfl

end Go.Proofs.Ytfjbhccapgnkiaa.P
