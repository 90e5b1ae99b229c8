import Derived.Test.YtfjbhccapgnkiaaA2
import Derived.Laws.FloatArith
import Derived.Laws.ComplexArith
import Derived.Laws.Externs
import Derived.WalkLawsBesides
import Derived.ChangeKeysEq
namespace Go.Proofs.Ytfjbhccapgnkiaa.P
open Go.RowKit Go.Proofs.YtfjbhccapgnkiaaW.PrintWords Go.Proofs.YtfjbhccapgnkiaaW.PrintLast Go.Proofs.YtfjbhccapgnkiaaW.PrintMore
attribute [local go_sem] max2_int min2_int max_two min_two max_three min_three max_four min_four
set_option linter.unusedVariables false
set_option maxHeartbeats 16000000
set_option maxRecDepth 100000
set_option linter.unusedSimpArgs false
/-! ### Floats: what an operation may give -/
/-- Is this word no number? -/
def isN (b : Nat) : Prop := (Ieee.double.read b).isNaN = true
/-- What an operation on two floats may give: the word that is laid down, or any that is no number. -/
def FO (op : BinOp) (x y r : Nat) : Prop := match floatBits op .f64 x y with | some v => r = v | none => isN r ∧ r < 18446744073709551616
theorem isN_nan (s f : Nat) (hs : s < 2) (hf : f < 4503599627370495) : isN (s * 9223372036854775808 + 9218868437227405312 + 1 + f) := by
 unfold isN Ieee.Format.read
 have h1 : Ieee.double.signWeight = 9223372036854775808 := by decide
 have h2 : Ieee.double.binade = 4503599627370496 := by decide
 have h3 : Ieee.double.infRung = 9218868437227405312 := by decide
 have h4 : (s * 9223372036854775808 + 9218868437227405312 + 1 + f) % 9223372036854775808 = 9218868437227405312 + 1 + f := by omega
 simp only [h1, h2, h3, h4]
 rw [if_neg (by omega), if_neg (by omega), if_neg (by omega)]
 rfl
theorem run_f64 (op : BinOp) (hop : op = .add ∨ op = .sub ∨ op = .mul ∨ op = .quo) (t : TypeId) (x y : Nat) (W : World) : ∃ r n, (binOp op t (.float .f64 x) (.float .f64 y)).run Try.prog W = .ok (.float .f64 r) (W.drewN n) ∧ FO op x y r := by
 unfold FO
 cases h : floatBits op .f64 x y with
 | some v => exact ⟨v, 0, by rw [run_float_arith W op t .f64 x y v h]; rfl, rfl⟩
 | none =>
  refine ⟨(Question.nanBits .f64 x y).cut (W.tape W.drawn (Question.nanBits .f64 x y)), 1, ?_, ?_, ?_⟩
  ·unfold floatBits at h
   rcases hop with rfl | rfl | rfl | rfl <;> simp only at h <;> simp [binOp, Op.floatArith, h, Question.forced] <;> rfl
  ·generalize W.tape W.drawn (Question.nanBits .f64 x y) = q
   have := isN_nan (q % 2) ((q / 2) % 4503599627370495) (by omega) (by omega)
   exact this
  ·generalize W.tape W.drawn (Question.nanBits .f64 x y) = q
   show (q % 2) * 2 ^ 63 + 0x7ff0000000000000 + 1 + (q / 2) % (2 ^ 52 - 1) < 18446744073709551616
   omega
theorem float_event {rest : List Oper} {ops : Array Oper} {Q : Exit → Act → World → Prop} {o : Oper} {a : Act} {W : World} (hgd : o.guard = none) {op : BinOp} {t t2 : TypeId} {x y : Operand} {p q : Nat} (ho : o.op = .binOp op t x y t2) (hop : op = .add ∨ op = .sub ∨ op = .mul ∨ op = .quo)
  (hx : a.eval x = .float .f64 p) (hy : a.eval y = .float .f64 q) (h : ∀ r w1, FO op p q r → Below W.heap.size W w1 → wpList Try.prog ops Q rest (a.put o.dst (.float .f64 r)) w1) : wpList Try.prog ops Q (o :: rest) a W := by
 obtain ⟨r, n, hr, hf⟩ := run_f64 op hop t p q W
 have hrun : (execOp a.eval o).run Try.prog W = .ok (.value (.float .f64 r)) (W.drewN n) := by
  unfold execOp
  rw [ho]
  simp only [hx, hy]
  rcases hop with rfl | rfl | rfl | rfl <;> simp [eqGuard, hr, Result.andThen]
 exact Kd.event_run hgd hrun (h r _ hf (by apply pw_below_drewN; exact Below.refl _ _))
/-- The same, as a truth. -/
def nanB (b : Nat) : Bool := (Ieee.double.read b).isNaN
theorem isN_iff (b : Nat) : isN b ↔ nanB b = true := Iff.rfl
theorem order_self (d : Ieee.Datum) : d.order d = if d.isNaN = true then none else some .eq := by
 cases d with
 | number s m e => simp only [Ieee.Datum.order, Ieee.Datum.isNaN]; simp
 | infinity s => simp only [Ieee.Datum.order, Ieee.Datum.isNaN]; simp
 | nan s f => rfl
theorem nan_eq (b : Nat) : (FloatKind.f64.format.order b b != some Ordering.eq) = nanB b := by
 have h : FloatKind.f64.format.order b b = if nanB b = true then none else some .eq := order_self _
 rw [h]
 cases nanB b <;> rfl
theorem f64bits_run (b : Nat) (w : World) : (callFunc 102 #[.float .f64 b]).run Try.prog w = .ok (.value (.int .u64 (b : Int))) w := by
 rw [run_callFunc_extern (e := Extern.MathFloatBits.float64bits) Try.func102 (by kernel_rfl) (by kernel_rfl) (by kernel_rfl) (by kernel_rfl)]
 rfl
theorem f64from_run (n : Int) (w : World) : (callFunc 104 #[.int .u64 n]).run Try.prog w = .ok (.value (.float .f64 n.toNat)) w := by
 rw [run_callFunc_extern (e := Extern.MathFloatBits.float64frombits) Try.func104 (by kernel_rfl) (by kernel_rfl) (by kernel_rfl) (by kernel_rfl)]
 rfl
theorem math_IsNaN.calls (b : Nat) (w : World) : Calls Try.prog 137 #[.float .f64 b] w fun e w' => e = .returned (.bool (nanB b)) ∧ Drawn0 w w' := by
 go_enter Try.func137, Try.ntmps137
 go_wp2
 go_ret
 exact ⟨congrArg (fun q => Ending.returned (Value.bool q)) (nan_eq b), Drawn0.refl _⟩
theorem math_NaN.calls (w : World) : Calls Try.prog 138 #[] w fun e w' => e = .returned (.float .f64 9221120237041090561) ∧ Drawn0 w w' := by
 have h1 := fun w => f64from_run 9221120237041090561 w
 go_enter Try.func138, Try.ntmps138
 go_wp2
 go_ret
 exact ⟨rfl, Drawn0.refl _⟩
/-- A float's word, one for all that are no number. -/
def bitsN (b : Nat) : Nat := if nanB b = true then 9221120237041090561 else b
theorem number_bits.calls (b : Nat) (w : World) : Calls Try.prog 125 #[.float .f64 b] w fun e w' => e = .returned (.int .u64 (bitsN b : Int)) ∧ Below w.heap.size w w' := by
 have h1 := fun b w => f64bits_run b w
 cases hb : nanB b
 ·have hn := math_IsNaN.calls b
  rw [hb] at hn
  have e : bitsN b = b := by unfold bitsN; rw [hb]; rfl
  rw [e]
  go_enter Try.func125, Try.ntmps125
  go_wp2_with (go_at_call 137; refine (hn _).mono ?_; rintro e w' ⟨rfl, ⟨nd, rfl⟩⟩)
  go_ret
  exact ⟨rfl, by apply pw_below_drewN; exact Below.refl _ _⟩
 ·have hn := math_IsNaN.calls b
  rw [hb] at hn
  have e : bitsN b = 9221120237041090561 := by unfold bitsN; rw [hb]; rfl
  rw [e]
  go_enter Try.func125, Try.ntmps125
  go_wp2_with (first
   | (go_at_call 137; refine (hn _).mono ?_; rintro e w' ⟨rfl, ⟨nd, rfl⟩⟩)
   | (go_at_call 138; refine (math_NaN.calls _).mono ?_; rintro e w' ⟨rfl, ⟨nd, rfl⟩⟩))
  go_ret
  exact ⟨rfl, by repeat (first | exact Below.refl _ _ | apply pw_below_drewN)⟩
theorem stC (P : Program) (w : World) (a : Addr) (k : FloatKind) (u v : Nat) (m : Mode) : (store a (.complex k u v) m).run P w = stored P w a (.complex k u v) m := run_store P w a _ m rfl
theorem stF (P : Program) (w : World) (a : Addr) (k : FloatKind) (u : Nat) (m : Mode) : (store a (.float k u) m).run P w = stored P w a (.float k u) m := run_store P w a _ m rfl
end Go.Proofs.Ytfjbhccapgnkiaa.P
namespace Go.Proofs.Ytfjbhccapgnkiaa.P
open Go.RowKit Go.Proofs.YtfjbhccapgnkiaaW.PrintWords Go.Proofs.YtfjbhccapgnkiaaW.PrintLast Go.Proofs.YtfjbhccapgnkiaaW.PrintMore
attribute [local go_sem] max2_int min2_int max_two min_two max_three min_three max_four min_four
set_option linter.unusedVariables false
set_option maxHeartbeats 16000000
set_option maxRecDepth 100000
set_option linter.unusedSimpArgs false
/-! ### An array of two words against the one of noughts -/
theorem info115 : ∃ i, Try.prog.info? 115 = some i := by
 have h : (Try.prog.info? 115).isSome = true := by kernel_rfl
 exact Option.isSome_iff_exists.1 h
theorem eq_u64 (d : Nat) (a b : Int) (w : World) : (Op.equalIn (d + 1) 115 (.int .u64 a) (.int .u64 b)).run Try.prog w = .ok (a == b) w := by
 simp [Op.equalIn, run_underlying Try.underlying115]
theorem eq_pair (x y : Int) (W : World) : (Op.equalIn 10000 130 (.agg #[.int .u64 x, .int .u64 y]) (.agg #[.int .u64 0, .int .u64 0])).run Try.prog W = .ok (x == 0 && y == 0) W := by
 obtain ⟨i, hi⟩ := info115
 have hc : Try.prog.cellsOf 115 = 1 := by kernel_rfl
 have h1 : ∀ (a b : Int) (w : World), (Op.equalIn 9999 115 (.int .u64 a) (.int .u64 b)).run Try.prog w = .ok (a == b) w := fun a b w => eq_u64 9998 a b w
 have p0 : ∀ (a b : Int) (w : World), (part 115 #[.int .u64 a, .int .u64 b] (0 * 1)).run Try.prog w = .ok (.int .u64 a) w := fun a b w => by kernel_rfl
 have p1 : ∀ (a b : Int) (w : World), (part 115 #[.int .u64 a, .int .u64 b] (1 * 1)).run Try.prog w = .ok (.int .u64 b) w := fun a b w => by kernel_rfl
 rw [show (10000 : Nat) = 9999 + 1 from rfl, run_equalIn_array (w := W) 9999 _ _ Try.underlying130 hi, hc]
 have hr : List.range 2 = [0, 1] := rfl
 rw [hr]
 simp only [Op.eqItems, Sem.run_bind, p0, p1, h1, Result.andThen_ok]
 cases hx : (x == 0)
 ·simp [Sem.run]
 ·simp only [Bool.not_true, Bool.false_eq_true, if_false, Sem.run_bind, p1, h1, Result.andThen_ok]
  cases hy : (y == 0) <;> simp [Sem.run]
attribute [local go_sem] stC stF
/-! ### number.key, number.pair -/
theorem number_key.calls (a b : Nat) (w : World) : Calls Try.prog 99 #[.complex .f64 a b] w fun e w' => e = .returned (.agg #[.int .u64 (bitsN a : Int), .int .u64 (bitsN b : Int)]) ∧ Below w.heap.size w w' := by
 have HB := Aside0.mk (Below.refl w.heap.size w)
 go_enter Try.func99, Try.ntmps99
 go_wp2_with (first
  | ((with_reducible refine gd 2 rfl ?_); refine bE (N := 2) (cs := #[.int .u64 0, .int .u64 0]) (t := 130) ?_; intro g1 hg w1 hbox hb; have a0 := Aside0.mk hbox; have a1 := Aside0.mk (Nat.le_trans (below_size HB.out) (Nat.le_of_eq hg.symm)); have n_ := Aside0.mk (below_step HB.out hb); clear HB; have HB := n_; clear n_; clear hb hbox hg)
  | ((with_reducible refine gd 5 rfl ?_); refine goesL_ (some 5) rfl rfl Try.func125 (by kernel_rfl) rfl #[.float .f64 a] rfl (by (try simp only [List.map_toArray, List.map_cons, List.map_nil]); first | done | rfl) ?_; refine (number_bits.calls a _).mono ?_; rintro e w2 ⟨rfl, hb⟩; refine ⟨_, rfl, ?_⟩; have n_ := Aside0.mk (blk_below a0.out hb); clear a0; have a0 := n_; clear n_; have n_ := Aside0.mk (below_step HB.out hb); clear HB; have HB := n_; clear n_; clear hb)
  | ((with_reducible refine gd 8 rfl ?_); refine goesL_ (some 8) rfl rfl Try.func125 (by kernel_rfl) rfl #[.float .f64 b] rfl (by (try simp only [List.map_toArray, List.map_cons, List.map_nil]); first | done | rfl) ?_; refine (number_bits.calls b _).mono ?_; rintro e w3 ⟨rfl, hb⟩; refine ⟨_, rfl, ?_⟩; have n_ := Aside0.mk (blk_below a0.out hb); clear a0; have a0 := n_; clear n_; have n_ := Aside0.mk (below_step HB.out hb); clear HB; have HB := n_; clear n_; clear hb; have hcz := zf2 a0))
 refine bodyPost_ret (results_cell_row rfl _ _ g1 130 #[.int .u64 (bitsN a : Int), .int .u64 (bitsN b : Int)] (0, 0) _ rfl (bp a0) Try.underlying130 rfl (by kernel_rfl)) rfl ?_
 exact ⟨rfl, below_set (below_set HB.out a1.out) a1.out⟩
theorem number_pair.calls (a b : Nat) (w : World) : Calls Try.prog 101 #[.complex .f64 a b] w fun e w' => e = .returned (.agg #[.bool true, .bool false, .slice none 0 0, .complex .f64 a b]) ∧ Below w.heap.size w w' := by
 have HB := Aside0.mk (Below.refl w.heap.size w)
 go_enter Try.func101, Try.ntmps101
 go_wp2_with (first
  | ((with_reducible refine gd 2 rfl ?_); refine bE (N := 2) (cs := #[.bool false, .bool false, .slice none 0 0, .complex .f64 0 0]) (t := 61) ?_; intro g1 hg w1 hbox hb; have a1 := Aside0.mk hbox; have a0 := Aside0.mk (Nat.le_trans (below_size HB.out) (Nat.le_of_eq hg.symm)); have n_ := Aside0.mk (below_step HB.out hb); clear HB; have HB := n_; clear n_; clear hb hbox hg; have hcz := zf4 a1))
 refine bodyPost_ret (results_cell_row rfl _ _ g1 61 #[.bool true, .bool false, .slice none 0 0, .complex .f64 a b] (0, 0) _ rfl (bp a1) Try.underlying61 rfl (by kernel_rfl)) rfl ?_
 exact ⟨rfl, below_set (below_set (below_set (below_set HB.out a0.out) a0.out) a0.out) a0.out⟩
/-! ### Sums of complex numbers -/
theorem run_fa (op : BinOp) (hop : op = .add ∨ op = .sub ∨ op = .mul ∨ op = .quo) (x y : Nat) (W : World) : ∃ r n, (Op.floatArith op .f64 x y).run Try.prog W = .ok (.float .f64 r) (W.drewN n) ∧ FO op x y r := by
 obtain ⟨r, n, h1, h2⟩ := run_f64 op hop 56 x y W
 refine ⟨r, n, ?_, h2⟩
 rcases hop with rfl | rfl | rfl | rfl <;> exact h1
theorem run_csum (op : BinOp) (hop : op = .add ∨ op = .sub) (t : TypeId) (a b c d : Nat) (W : World) : ∃ re im n, (binOp op t (.complex .f64 a b) (.complex .f64 c d)).run Try.prog W = .ok (.complex .f64 re im) (W.drewN n) ∧ FO op a c re ∧ FO op b d im := by
 have a0 : op = .add ∨ op = .sub ∨ op = .mul ∨ op = .quo := by rcases hop with h | h; exact .inl h; exact .inr (.inl h)
 obtain ⟨re, n, h1, h2⟩ := run_fa op a0 a c W
 obtain ⟨im, m, h3, h4⟩ := run_fa op a0 b d (W.drewN n)
 refine ⟨re, im, n + m, ?_, h2, h4⟩
 have e : (W.drewN n).drewN m = W.drewN (n + m) := by simp [World.drewN, Nat.add_assoc]
 rw [← e]
 rcases hop with rfl | rfl <;> simp [binOp, Op.complexOp, Op.Complex.arith, h1, h3]
theorem cplx_event {rest : List Oper} {ops : Array Oper} {Q : Exit → Act → World → Prop} {o : Oper} {a : Act} {W : World} (hgd : o.guard = none) {op : BinOp} {t t2 : TypeId} {x y : Operand} {p q u v : Nat} (ho : o.op = .binOp op t x y t2) (hop : op = .add ∨ op = .sub)
  (hx : a.eval x = .complex .f64 p q) (hy : a.eval y = .complex .f64 u v) (h : ∀ re im w1, FO op p u re → FO op q v im → Below W.heap.size W w1 → wpList Try.prog ops Q rest (a.put o.dst (.complex .f64 re im)) w1) : wpList Try.prog ops Q (o :: rest) a W := by
 obtain ⟨re, im, n, hr, h1, h2⟩ := run_csum op hop t p q u v W
 have hrun : (execOp a.eval o).run Try.prog W = .ok (.value (.complex .f64 re im)) (W.drewN n) := by
  unfold execOp
  rw [ho]
  simp only [hx, hy]
  rcases hop with rfl | rfl <;> simp [eqGuard, hr, Result.andThen]
 exact Kd.event_run hgd hrun (h re im _ h1 h2 (by apply pw_below_drewN; exact Below.refl _ _))
theorem results_ctt3 {P : Program} {fn : Func} {p u v : Tmp} {ty : TypeId} (h : fn.results = #[.cell p ty, .tmp u, .tmp v]) (tmps : Array Value) (w : World) (g : Nat) (t : TypeId) (cs : Array Value) (fr : Nat × Nat) (d : TypeDesc)
  (hp : tmps.getD p undef = .pointer (some ⟨g, 0, none⟩)) (hg : w.heap[g]? = some (.cells cs t fr))
  (hu : P.underlying ty = some d) (hd : (match d with | .struct _ | .array _ _ => true | _ => false) = true) (hi : (P.info? ty).map (·.size) = some cs.size) :
  (results fn tmps).run P w = .ok (.tuple #[.agg cs, tmps.getD u undef, tmps.getD v undef]) w := by
 have hp' : tmps[p]?.getD undef = .pointer (some ⟨g, 0, none⟩) := by simpa using hp
 simp [results, h, hp', asAddr, run_loadVar_row w g t ty cs fr d hg hu hd hi]
end Go.Proofs.Ytfjbhccapgnkiaa.P
