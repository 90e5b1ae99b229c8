import Derived.Test.YtfjbhccapgnkiaaN0
import Derived.Test.YtfjbhccapgnkiaaV0
import Derived.Test.YtfjbhccapgnkiaaB7
namespace Go.Proofs.Ytfjbhccapgnkiaa.P
open Go.RowKit Go.Proofs.YtfjbhccapgnkiaaW.PrintWords Go.Proofs.YtfjbhccapgnkiaaW.PrintLast Go.Proofs.YtfjbhccapgnkiaaW.PrintMore
attribute [local go_sem] max2_int min2_int max_two min_two max_three min_three max_four min_four
set_option linter.unusedVariables false
set_option maxHeartbeats 16000000
set_option maxRecDepth 100000
set_option linter.unusedSimpArgs false
attribute [local go_sem] stC stF
/-! ### number.float, wide, times, over -/
theorem number_float.calls (xs : Bool) (Ax : Option Addr) (cx : Nat) (lx : List Int) (k : Nat) (n : Int) (ok : Bool) (w : World) (hrx : Kd.C (Kd.int .u8) w Ax lx.length lx) (hcx : lx.length ≤ cx) (h : whole_Small.f k xs lx = some (n, ok)) :
  Calls Try.prog 100 #[.agg #[.bool xs, .slice Ax lx.length cx]] w fun e w' => e = .returned (.tuple #[.float .f64 (FloatKind.f64.nearest n), .bool ok]) ∧ Below w.heap.size w w' := by
 have hu24 := Try.underlying24
 have hu25 := Try.underlying25
 have hu61 := Try.underlying61
 have n_ := Aside0.mk hrx
 clear hrx
 have hrx := n_
 clear n_
 have n_ := Aside0.mk hcx
 clear hcx
 have hcx := n_
 clear n_
 have n_ := Aside0.mk h
 clear h
 have h := n_
 clear n_
 have HBW := Aside0.mk (Below.refl w.heap.size w)
 have Z := Aside0.mk (show w.heap.size ≤ w.heap.size from Nat.le_refl _)
 go_enter Try.func100, Try.ntmps100
 go_wp2_with (first
  | ((with_reducible refine gd 1 rfl ?_); refine bY 1 rfl #[.bool xs, .slice Ax lx.length cx] 25 ?_; intro b1 hg wa1 hbox hb K_; replace Z := zN Z K_ hg hbox; replace HBW := bS HBW hb; have a0 := Aside0.mk hbox; clear hb hbox hg K_; have zb1 := z2 a0)
  | ((with_reducible refine gd 8 rfl ?_); refine gU ?_; refine gc (some 8) Try.func33 #[.agg #[.bool xs, .slice Ax lx.length cx]] (whole_Small.calls k xs _ _ lx n ok _ (Kd.C_below hrx.out HBW.out) hcx.out h.out) ?_; rintro e wa2 ⟨rfl, hb⟩; refine ⟨_, rfl, ?_⟩; have K_ := kb hb; replace a0 := mvB a0 K_; replace Z := zA Z (K_.1); replace HBW := bS HBW hb; clear hb K_; replace zb1 := z2 a0))
 go_ret2
 exact ⟨rfl, HBW.out⟩
theorem number_wide.pair (xs : Bool) (Ax : Option Addr) (cx : Nat) (lx : List Int) (xa xb : Nat) (w : World) (hrx : Kd.C (Kd.int .u8) w Ax lx.length lx) (hcx : lx.length ≤ cx) :
  Calls Try.prog 118 #[.agg #[.bool true, .bool xs, .slice Ax lx.length cx, .complex .f64 xa xb]] w fun e w' => e = .returned (.tuple #[.complex .f64 xa xb, .bool true]) ∧ Below w.heap.size w w' := by
 have hu24 := Try.underlying24
 have hu25 := Try.underlying25
 have hu61 := Try.underlying61
 have n_ := Aside0.mk hrx
 clear hrx
 have hrx := n_
 clear n_
 have n_ := Aside0.mk hcx
 clear hcx
 have hcx := n_
 clear n_
 have HBW := Aside0.mk (Below.refl w.heap.size w)
 have Z := Aside0.mk (show w.heap.size ≤ w.heap.size from Nat.le_refl _)
 go_enter Try.func118, Try.ntmps118
 go_wp2_with (first
  | ((with_reducible refine gd 1 rfl ?_); refine bY 1 rfl #[.bool true, .bool xs, .slice Ax lx.length cx, .complex .f64 xa xb] 61 ?_; intro b1 hg wa1 hbox hb K_; replace Z := zN Z K_ hg hbox; replace HBW := bS HBW hb; have a0 := Aside0.mk hbox; clear hb hbox hg K_; have zb1 := z4 a0))
 go_ret2
 exact ⟨rfl, HBW.out⟩
theorem number_wide.plain (xs : Bool) (Ax : Option Addr) (cx : Nat) (lx : List Int) (xa xb : Nat) (k : Nat) (n : Int) (ok : Bool) (w : World) (hrx : Kd.C (Kd.int .u8) w Ax lx.length lx) (hcx : lx.length ≤ cx) (h : whole_Small.f k xs lx = some (n, ok)) :
  Calls Try.prog 118 #[.agg #[.bool false, .bool xs, .slice Ax lx.length cx, .complex .f64 xa xb]] w fun e w' => e = .returned (.tuple #[.complex .f64 (FloatKind.f64.nearest n) 0, .bool ok]) ∧ Below w.heap.size w w' := by
 have hu24 := Try.underlying24
 have hu25 := Try.underlying25
 have hu61 := Try.underlying61
 have n_ := Aside0.mk hrx
 clear hrx
 have hrx := n_
 clear n_
 have n_ := Aside0.mk hcx
 clear hcx
 have hcx := n_
 clear n_
 have n_ := Aside0.mk h
 clear h
 have h := n_
 clear n_
 have HBW := Aside0.mk (Below.refl w.heap.size w)
 have Z := Aside0.mk (show w.heap.size ≤ w.heap.size from Nat.le_refl _)
 go_enter Try.func118, Try.ntmps118
 go_wp2_with (first
  | ((with_reducible refine gd 1 rfl ?_); refine bY 1 rfl #[.bool false, .bool xs, .slice Ax lx.length cx, .complex .f64 xa xb] 61 ?_; intro b1 hg wa1 hbox hb K_; replace Z := zN Z K_ hg hbox; replace HBW := bS HBW hb; have a0 := Aside0.mk hbox; clear hb hbox hg K_; have zb1 := z4 a0)
  | ((with_reducible refine gd 13 rfl ?_); refine gU ?_; refine gc (some 13) Try.func100 #[.agg #[.bool xs, .slice Ax lx.length cx]] (number_float.calls xs _ _ lx k n ok _ (Kd.C_below hrx.out HBW.out) hcx.out h.out) ?_; rintro e wa2 ⟨rfl, hb⟩; refine ⟨_, rfl, ?_⟩; have K_ := kb hb; replace a0 := mvB a0 K_; replace Z := zA Z (K_.1); replace HBW := bS HBW hb; clear hb K_; replace zb1 := z4 a0))
 go_ret2
 exact ⟨rfl, HBW.out⟩
/-- A product of complex numbers. -/
def TimesR (a b c d re im : Nat) : Prop := ∃ p q s t, FO .mul a c p ∧ FO .mul b d q ∧ FO .sub p q re ∧ FO .mul a d s ∧ FO .mul b c t ∧ FO .add s t im
theorem number_times.calls (a b c d : Nat) (w : World) :
  Calls Try.prog 119 #[.complex .f64 a b, .complex .f64 c d] w fun e w' => ∃ re im, e = .returned (.complex .f64 re im) ∧ TimesR a b c d re im ∧ Below w.heap.size w w' := by
 have hu24 := Try.underlying24
 have hu25 := Try.underlying25
 have hu61 := Try.underlying61
 have HBW := Aside0.mk (Below.refl w.heap.size w)
 have Z := Aside0.mk (show w.heap.size ≤ w.heap.size from Nat.le_refl _)
 go_enter Try.func119, Try.ntmps119
 go_wp2_with (first
  | ((with_reducible refine gd 11 rfl ?_); (try (refine gate_guard (by rfl) ?_; dsimp only)); refine float_event rfl rfl (by simp) rfl rfl ?_; intro r1 wa1 hf hb; have Fr1 := Aside0.mk hf; clear hf; have K_ := kb hb; replace Z := zA Z (K_.1); replace HBW := bS HBW hb; clear hb K_)
  | ((with_reducible refine gd 16 rfl ?_); (try (refine gate_guard (by rfl) ?_; dsimp only)); refine float_event rfl rfl (by simp) rfl rfl ?_; intro r2 wa2 hf hb; have Fr2 := Aside0.mk hf; clear hf; have K_ := kb hb; replace Z := zA Z (K_.1); replace HBW := bS HBW hb; clear hb K_)
  | ((with_reducible refine gd 17 rfl ?_); (try (refine gate_guard (by rfl) ?_; dsimp only)); refine float_event rfl rfl (by simp) rfl rfl ?_; intro r3 wa3 hf hb; have Fr3 := Aside0.mk hf; clear hf; have K_ := kb hb; replace Z := zA Z (K_.1); replace HBW := bS HBW hb; clear hb K_)
  | ((with_reducible refine gd 22 rfl ?_); (try (refine gate_guard (by rfl) ?_; dsimp only)); refine float_event rfl rfl (by simp) rfl rfl ?_; intro r4 wa4 hf hb; have Fr4 := Aside0.mk hf; clear hf; have K_ := kb hb; replace Z := zA Z (K_.1); replace HBW := bS HBW hb; clear hb K_)
  | ((with_reducible refine gd 27 rfl ?_); (try (refine gate_guard (by rfl) ?_; dsimp only)); refine float_event rfl rfl (by simp) rfl rfl ?_; intro r5 wa5 hf hb; have Fr5 := Aside0.mk hf; clear hf; have K_ := kb hb; replace Z := zA Z (K_.1); replace HBW := bS HBW hb; clear hb K_)
  | ((with_reducible refine gd 28 rfl ?_); (try (refine gate_guard (by rfl) ?_; dsimp only)); refine float_event rfl rfl (by simp) rfl rfl ?_; intro r6 wa6 hf hb; have Fr6 := Aside0.mk hf; clear hf; have K_ := kb hb; replace Z := zA Z (K_.1); replace HBW := bS HBW hb; clear hb K_))
 go_ret
 exact ⟨_, _, rfl, ⟨_, _, _, _, Fr1.out, Fr2.out, Fr3.out, Fr4.out, Fr5.out, Fr6.out⟩, HBW.out⟩
def negW (b : Nat) : Nat := Op.negFloat .f64 b
def OverR (a b c d re im : Nat) : Prop := ∃ p q n x y, FO .mul c c p ∧ FO .mul d d q ∧ FO .add p q n ∧ TimesR a b c (Op.negFloat .f64 d) x y ∧ FO .quo x n re ∧ FO .quo y n im
theorem number_over.calls (a b c d : Nat) (w : World) :
  Calls Try.prog 120 #[.complex .f64 a b, .complex .f64 c d] w fun e w' => ∃ re im, e = .returned (.complex .f64 re im) ∧ OverR a b c d re im ∧ Below w.heap.size w w' := by
 have hu24 := Try.underlying24
 have hu25 := Try.underlying25
 have hu61 := Try.underlying61
 have hneg : ∀ (b : Nat) (W : World), (Op.unary .neg (.float .f64 b)).run Try.prog W = .ok (.float .f64 (Op.negFloat .f64 b)) W := fun _ _ => rfl
 have HBW := Aside0.mk (Below.refl w.heap.size w)
 have Z := Aside0.mk (show w.heap.size ≤ w.heap.size from Nat.le_refl _)
 go_enter Try.func120, Try.ntmps120
 go_wp2_with (first
  | ((with_reducible refine gd 11 rfl ?_); (try (refine gate_guard (by rfl) ?_; dsimp only)); refine float_event rfl rfl (by simp) rfl rfl ?_; intro r1 wa1 hf hb; have Fr1 := Aside0.mk hf; clear hf; have K_ := kb hb; replace Z := zA Z (K_.1); replace HBW := bS HBW hb; clear hb K_)
  | ((with_reducible refine gd 16 rfl ?_); (try (refine gate_guard (by rfl) ?_; dsimp only)); refine float_event rfl rfl (by simp) rfl rfl ?_; intro r2 wa2 hf hb; have Fr2 := Aside0.mk hf; clear hf; have K_ := kb hb; replace Z := zA Z (K_.1); replace HBW := bS HBW hb; clear hb K_)
  | ((with_reducible refine gd 17 rfl ?_); (try (refine gate_guard (by rfl) ?_; dsimp only)); refine float_event rfl rfl (by simp) rfl rfl ?_; intro r3 wa3 hf hb; have Fr3 := Aside0.mk hf; clear hf; have K_ := kb hb; replace Z := zA Z (K_.1); replace HBW := bS HBW hb; clear hb K_)
  | ((with_reducible refine gd 25 rfl ?_); refine gU ?_; refine gc (some 25) Try.func119 #[.complex .f64 a b, .complex .f64 c (Op.negFloat .f64 d)] (number_times.calls a b c (Op.negFloat .f64 d) _) ?_; rintro e wa4 ⟨x1, y1, rfl, ht, hb⟩; refine ⟨_, rfl, ?_⟩; have K_ := kb hb; replace Z := zA Z (K_.1); replace HBW := bS HBW hb; have FT := Aside0.mk ht; clear ht; clear hb K_)
  | ((with_reducible refine gd 29 rfl ?_); (try (refine gate_guard (by rfl) ?_; dsimp only)); refine float_event rfl rfl (by simp) rfl rfl ?_; intro r4 wa5 hf hb; have Fr4 := Aside0.mk hf; clear hf; have K_ := kb hb; replace Z := zA Z (K_.1); replace HBW := bS HBW hb; clear hb K_)
  | ((with_reducible refine gd 33 rfl ?_); (try (refine gate_guard (by rfl) ?_; dsimp only)); refine float_event rfl rfl (by simp) rfl rfl ?_; intro r5 wa6 hf hb; have Fr5 := Aside0.mk hf; clear hf; have K_ := kb hb; replace Z := zA Z (K_.1); replace HBW := bS HBW hb; clear hb K_))
 go_ret
 exact ⟨_, _, rfl, ⟨_, _, _, _, _, Fr1.out, Fr2.out, Fr3.out, FT.out, Fr4.out, Fr5.out⟩, HBW.out⟩
attribute [local go_sem] stC stF
/-! ### number.Right -/
def rightN (p s : Bool) (l : List Int) (a b : Nat) (rb : Bool) : Bool := if p = true then (!s && decide (l.length = 0)) else (rb && decide (bitsN a = 0) && decide (bitsN b = 0))
theorem number_Right.pt (Ax : Option Addr) (cx : Nat) (lx : List Int) (xa xb : Nat) (w : World) (hrx : Kd.C (Kd.int .u8) w Ax lx.length lx) (hcx : lx.length ≤ cx) :
  Calls Try.prog 58 #[.agg #[.bool true, .bool true, .slice Ax lx.length cx, .complex .f64 xa xb]] w fun e w' => e = .returned (.bool false) ∧ Below w.heap.size w w' := by
 have hu24 := Try.underlying24
 have hu25 := Try.underlying25
 have hu61 := Try.underlying61
 have n_ := Aside0.mk hrx
 clear hrx
 have hrx := n_
 clear n_
 have n_ := Aside0.mk hcx
 clear hcx
 have hcx := n_
 clear n_
 have HBW := Aside0.mk (Below.refl w.heap.size w)
 have Z := Aside0.mk (show w.heap.size ≤ w.heap.size from Nat.le_refl _)
 go_enter Try.func58, Try.ntmps58
 go_wp2_with (first
  | ((with_reducible refine gd 1 rfl ?_); refine bY 1 rfl #[.bool true, .bool true, .slice Ax lx.length cx, .complex .f64 xa xb] 61 ?_; intro b1 hg wa1 hbox hb K_; replace Z := zN Z K_ hg hbox; replace HBW := bS HBW hb; have a0 := Aside0.mk hbox; clear hb hbox hg K_; have zb1 := z4 a0))
 go_ret
 exact ⟨rfl, HBW.out⟩
theorem number_Right.pf0 (Ax : Option Addr) (cx : Nat) (lx : List Int) (xa xb : Nat) (hl : (lx.length : Int) = 0) (w : World) (hrx : Kd.C (Kd.int .u8) w Ax lx.length lx) (hcx : lx.length ≤ cx) :
  Calls Try.prog 58 #[.agg #[.bool true, .bool false, .slice Ax lx.length cx, .complex .f64 xa xb]] w fun e w' => e = .returned (.bool true) ∧ Below w.heap.size w w' := by
 have hu24 := Try.underlying24
 have hu25 := Try.underlying25
 have hu61 := Try.underlying61
 have n_ := Aside0.mk hrx
 clear hrx
 have hrx := n_
 clear n_
 have n_ := Aside0.mk hcx
 clear hcx
 have hcx := n_
 clear n_
 have HBW := Aside0.mk (Below.refl w.heap.size w)
 have Z := Aside0.mk (show w.heap.size ≤ w.heap.size from Nat.le_refl _)
 go_enter Try.func58, Try.ntmps58
 go_wp2_with (first
  | ((with_reducible refine gd 1 rfl ?_); refine bY 1 rfl #[.bool true, .bool false, .slice Ax lx.length cx, .complex .f64 xa xb] 61 ?_; intro b1 hg wa1 hbox hb K_; replace Z := zN Z K_ hg hbox; replace HBW := bS HBW hb; have a0 := Aside0.mk hbox; clear hb hbox hg K_; have zb1 := z4 a0))
 go_ret
 exact ⟨rfl, HBW.out⟩
theorem number_Right.pf1 (Ax : Option Addr) (cx : Nat) (lx : List Int) (xa xb : Nat) (hl : ¬ (lx.length : Int) = 0) (w : World) (hrx : Kd.C (Kd.int .u8) w Ax lx.length lx) (hcx : lx.length ≤ cx) :
  Calls Try.prog 58 #[.agg #[.bool true, .bool false, .slice Ax lx.length cx, .complex .f64 xa xb]] w fun e w' => e = .returned (.bool false) ∧ Below w.heap.size w w' := by
 have hu24 := Try.underlying24
 have hu25 := Try.underlying25
 have hu61 := Try.underlying61
 have n_ := Aside0.mk hrx
 clear hrx
 have hrx := n_
 clear n_
 have n_ := Aside0.mk hcx
 clear hcx
 have hcx := n_
 clear n_
 have HBW := Aside0.mk (Below.refl w.heap.size w)
 have Z := Aside0.mk (show w.heap.size ≤ w.heap.size from Nat.le_refl _)
 go_enter Try.func58, Try.ntmps58
 go_wp2_with (first
  | ((with_reducible refine gd 1 rfl ?_); refine bY 1 rfl #[.bool true, .bool false, .slice Ax lx.length cx, .complex .f64 xa xb] 61 ?_; intro b1 hg wa1 hbox hb K_; replace Z := zN Z K_ hg hbox; replace HBW := bS HBW hb; have a0 := Aside0.mk hbox; clear hb hbox hg K_; have zb1 := z4 a0))
 go_ret
 exact ⟨congrArg (fun q => Ending.returned (Value.bool q)) (beq_eq_false_iff_ne.2 hl), HBW.out⟩
theorem number_Right.wn (Ax : Option Addr) (cx : Nat) (lx : List Int) (xa xb : Nat) (xs : Bool) (w : World) (hrx : Kd.C (Kd.int .u8) w Ax lx.length lx) (hcx : lx.length ≤ cx) (h : whole_Right.f xs lx = some false) :
  Calls Try.prog 58 #[.agg #[.bool false, .bool xs, .slice Ax lx.length cx, .complex .f64 xa xb]] w fun e w' => e = .returned (.bool false) ∧ Below w.heap.size w w' := by
 have hu24 := Try.underlying24
 have hu25 := Try.underlying25
 have hu61 := Try.underlying61
 have n_ := Aside0.mk hrx
 clear hrx
 have hrx := n_
 clear n_
 have n_ := Aside0.mk hcx
 clear hcx
 have hcx := n_
 clear n_
 have n_ := Aside0.mk h
 clear h
 have h := n_
 clear n_
 have HBW := Aside0.mk (Below.refl w.heap.size w)
 have Z := Aside0.mk (show w.heap.size ≤ w.heap.size from Nat.le_refl _)
 go_enter Try.func58, Try.ntmps58
 go_wp2_with (first
  | ((with_reducible refine gd 1 rfl ?_); refine bY 1 rfl #[.bool false, .bool xs, .slice Ax lx.length cx, .complex .f64 xa xb] 61 ?_; intro b1 hg wa1 hbox hb K_; replace Z := zN Z K_ hg hbox; replace HBW := bS HBW hb; have a0 := Aside0.mk hbox; clear hb hbox hg K_; have zb1 := z4 a0)
  | ((with_reducible refine gd 18 rfl ?_); refine gU ?_; refine gc (some 18) Try.func39 #[.agg #[.bool xs, .slice Ax lx.length cx]] (whole_Right.calls xs _ _ lx false _ (Kd.C_below hrx.out HBW.out) hcx.out h.out) ?_; rintro e wa2 ⟨rfl, hb⟩; refine ⟨_, rfl, ?_⟩; have K_ := kb hb; replace a0 := mvB a0 K_; replace Z := zA Z (K_.1); replace HBW := bS HBW hb; clear hb K_; replace zb1 := z4 a0))
 go_ret
 exact ⟨rfl, HBW.out⟩
theorem number_Right.wy (Ax : Option Addr) (cx : Nat) (lx : List Int) (xa xb : Nat) (xs : Bool) (ha : bitsN xa = 0) (a1 : bitsN xb = 0) (w : World) (hrx : Kd.C (Kd.int .u8) w Ax lx.length lx) (hcx : lx.length ≤ cx) (h : whole_Right.f xs lx = some true) :
  Calls Try.prog 58 #[.agg #[.bool false, .bool xs, .slice Ax lx.length cx, .complex .f64 xa xb]] w fun e w' => e = .returned (.bool true) ∧ Below w.heap.size w w' := by
 have hu24 := Try.underlying24
 have hu25 := Try.underlying25
 have hu61 := Try.underlying61
 have heq : ∀ W : World, (Op.equalIn 10000 130 (.agg #[.int .u64 (bitsN xa : Int), .int .u64 (bitsN xb : Int)]) (.agg #[.int .u64 0, .int .u64 0])).run Try.prog W = .ok true W := fun W => by
  rw [eq_pair]
  simp [ha, a1]
 clear ha a1
 have n_ := Aside0.mk hrx
 clear hrx
 have hrx := n_
 clear n_
 have n_ := Aside0.mk hcx
 clear hcx
 have hcx := n_
 clear n_
 have n_ := Aside0.mk h
 clear h
 have h := n_
 clear n_
 have HBW := Aside0.mk (Below.refl w.heap.size w)
 have Z := Aside0.mk (show w.heap.size ≤ w.heap.size from Nat.le_refl _)
 go_enter Try.func58, Try.ntmps58
 go_wp2_with (first
  | ((with_reducible refine gd 1 rfl ?_); refine bY 1 rfl #[.bool false, .bool xs, .slice Ax lx.length cx, .complex .f64 xa xb] 61 ?_; intro b1 hg wa1 hbox hb K_; replace Z := zN Z K_ hg hbox; replace HBW := bS HBW hb; have a0 := Aside0.mk hbox; clear hb hbox hg K_; have a2 := z4 a0)
  | ((with_reducible refine gd 18 rfl ?_); refine gU ?_; refine gc (some 18) Try.func39 #[.agg #[.bool xs, .slice Ax lx.length cx]] (whole_Right.calls xs _ _ lx true _ (Kd.C_below hrx.out HBW.out) hcx.out h.out) ?_; rintro e wa2 ⟨rfl, hb⟩; refine ⟨_, rfl, ?_⟩; have K_ := kb hb; replace a0 := mvB a0 K_; replace Z := zA Z (K_.1); replace HBW := bS HBW hb; clear hb K_; replace a2 := z4 a0)
  | ((with_reducible refine gd 22 rfl ?_); refine gU ?_; refine gc (some 22) Try.func99 #[.complex .f64 xa xb] (number_key.calls xa xb _) ?_; rintro e wa3 ⟨rfl, hb⟩; refine ⟨_, rfl, ?_⟩; have K_ := kb hb; replace a0 := mvB a0 K_; replace Z := zA Z (K_.1); replace HBW := bS HBW hb; clear hb K_; replace a2 := z4 a0))
 go_ret
 exact ⟨rfl, HBW.out⟩
theorem number_Right.wa (Ax : Option Addr) (cx : Nat) (lx : List Int) (xa xb : Nat) (xs : Bool) (ha : ¬ bitsN xa = 0) (w : World) (hrx : Kd.C (Kd.int .u8) w Ax lx.length lx) (hcx : lx.length ≤ cx) (h : whole_Right.f xs lx = some true) :
  Calls Try.prog 58 #[.agg #[.bool false, .bool xs, .slice Ax lx.length cx, .complex .f64 xa xb]] w fun e w' => e = .returned (.bool false) ∧ Below w.heap.size w w' := by
 have hu24 := Try.underlying24
 have hu25 := Try.underlying25
 have hu61 := Try.underlying61
 have heq : ∀ W : World, (Op.equalIn 10000 130 (.agg #[.int .u64 (bitsN xa : Int), .int .u64 (bitsN xb : Int)]) (.agg #[.int .u64 0, .int .u64 0])).run Try.prog W = .ok false W := fun W => by
  rw [eq_pair]
  simp [ha]
 clear ha
 have n_ := Aside0.mk hrx
 clear hrx
 have hrx := n_
 clear n_
 have n_ := Aside0.mk hcx
 clear hcx
 have hcx := n_
 clear n_
 have n_ := Aside0.mk h
 clear h
 have h := n_
 clear n_
 have HBW := Aside0.mk (Below.refl w.heap.size w)
 have Z := Aside0.mk (show w.heap.size ≤ w.heap.size from Nat.le_refl _)
 go_enter Try.func58, Try.ntmps58
 go_wp2_with (first
  | ((with_reducible refine gd 1 rfl ?_); refine bY 1 rfl #[.bool false, .bool xs, .slice Ax lx.length cx, .complex .f64 xa xb] 61 ?_; intro b1 hg wa1 hbox hb K_; replace Z := zN Z K_ hg hbox; replace HBW := bS HBW hb; have a0 := Aside0.mk hbox; clear hb hbox hg K_; have a1 := z4 a0)
  | ((with_reducible refine gd 18 rfl ?_); refine gU ?_; refine gc (some 18) Try.func39 #[.agg #[.bool xs, .slice Ax lx.length cx]] (whole_Right.calls xs _ _ lx true _ (Kd.C_below hrx.out HBW.out) hcx.out h.out) ?_; rintro e wa2 ⟨rfl, hb⟩; refine ⟨_, rfl, ?_⟩; have K_ := kb hb; replace a0 := mvB a0 K_; replace Z := zA Z (K_.1); replace HBW := bS HBW hb; clear hb K_; replace a1 := z4 a0)
  | ((with_reducible refine gd 22 rfl ?_); refine gU ?_; refine gc (some 22) Try.func99 #[.complex .f64 xa xb] (number_key.calls xa xb _) ?_; rintro e wa3 ⟨rfl, hb⟩; refine ⟨_, rfl, ?_⟩; have K_ := kb hb; replace a0 := mvB a0 K_; replace Z := zA Z (K_.1); replace HBW := bS HBW hb; clear hb K_; replace a1 := z4 a0))
 go_ret
 exact ⟨rfl, HBW.out⟩
theorem number_Right.wb (Ax : Option Addr) (cx : Nat) (lx : List Int) (xa xb : Nat) (xs : Bool) (ha : bitsN xa = 0) (a1 : ¬ bitsN xb = 0) (w : World) (hrx : Kd.C (Kd.int .u8) w Ax lx.length lx) (hcx : lx.length ≤ cx) (h : whole_Right.f xs lx = some true) :
  Calls Try.prog 58 #[.agg #[.bool false, .bool xs, .slice Ax lx.length cx, .complex .f64 xa xb]] w fun e w' => e = .returned (.bool false) ∧ Below w.heap.size w w' := by
 have hu24 := Try.underlying24
 have hu25 := Try.underlying25
 have hu61 := Try.underlying61
 have heq : ∀ W : World, (Op.equalIn 10000 130 (.agg #[.int .u64 (bitsN xa : Int), .int .u64 (bitsN xb : Int)]) (.agg #[.int .u64 0, .int .u64 0])).run Try.prog W = .ok false W := fun W => by
  rw [eq_pair]
  simp [ha, a1]
 clear ha a1
 have n_ := Aside0.mk hrx
 clear hrx
 have hrx := n_
 clear n_
 have n_ := Aside0.mk hcx
 clear hcx
 have hcx := n_
 clear n_
 have n_ := Aside0.mk h
 clear h
 have h := n_
 clear n_
 have HBW := Aside0.mk (Below.refl w.heap.size w)
 have Z := Aside0.mk (show w.heap.size ≤ w.heap.size from Nat.le_refl _)
 go_enter Try.func58, Try.ntmps58
 go_wp2_with (first
  | ((with_reducible refine gd 1 rfl ?_); refine bY 1 rfl #[.bool false, .bool xs, .slice Ax lx.length cx, .complex .f64 xa xb] 61 ?_; intro b1 hg wa1 hbox hb K_; replace Z := zN Z K_ hg hbox; replace HBW := bS HBW hb; have a0 := Aside0.mk hbox; clear hb hbox hg K_; have a2 := z4 a0)
  | ((with_reducible refine gd 18 rfl ?_); refine gU ?_; refine gc (some 18) Try.func39 #[.agg #[.bool xs, .slice Ax lx.length cx]] (whole_Right.calls xs _ _ lx true _ (Kd.C_below hrx.out HBW.out) hcx.out h.out) ?_; rintro e wa2 ⟨rfl, hb⟩; refine ⟨_, rfl, ?_⟩; have K_ := kb hb; replace a0 := mvB a0 K_; replace Z := zA Z (K_.1); replace HBW := bS HBW hb; clear hb K_; replace a2 := z4 a0)
  | ((with_reducible refine gd 22 rfl ?_); refine gU ?_; refine gc (some 22) Try.func99 #[.complex .f64 xa xb] (number_key.calls xa xb _) ?_; rintro e wa3 ⟨rfl, hb⟩; refine ⟨_, rfl, ?_⟩; have K_ := kb hb; replace a0 := mvB a0 K_; replace Z := zA Z (K_.1); replace HBW := bS HBW hb; clear hb K_; replace a2 := z4 a0))
 go_ret
 exact ⟨rfl, HBW.out⟩
end Go.Proofs.Ytfjbhccapgnkiaa.P
