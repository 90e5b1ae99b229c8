import Derived.Test.YtfjbhccapgnkiaaN3
namespace Go.Proofs.Ytfjbhccapgnkiaa.P
open Go.RowKit Go.Proofs.YtfjbhccapgnkiaaW.PrintWords Go.Proofs.YtfjbhccapgnkiaaW.PrintLast Go.Proofs.YtfjbhccapgnkiaaW.PrintMore
attribute [local go_sem] max2_int min2_int max_two min_two max_three min_three max_four min_four
set_option linter.unusedVariables false
set_option maxHeartbeats 16000000
set_option maxRecDepth 100000
set_option linter.unusedSimpArgs false
attribute [local go_sem] stC stF
/-! ### number.pairs -/
def ceqB (a b c d : Nat) : Bool := FloatKind.f64.format.order a c == some Ordering.eq && FloatKind.f64.format.order b d == some Ordering.eq
/-- What a number is as a complex one, told of the call. -/
def Gives118 (w : World) (x : Value) (r i : Nat) (k : Bool) : Prop := ∀ W : World, Below w.heap.size w W → Calls Try.prog 118 #[x] W fun e w' => e = .returned (.tuple #[.complex .f64 r i, .bool k]) ∧ Below W.heap.size W w'
/-- An operation of complex numbers: what it may give. -/
def PairsR (op : Int) (xr xi : Nat) (xk : Bool) (yr yi : Nat) (yk : Bool) (p : Bool) (re im : Nat) (b : Bool) (er : Int) : Prop :=
 ((op = 4 ∨ op = 5 ∨ op = 7) ∧ p = false ∧ re = 0 ∧ im = 0 ∧ b = false ∧ er = 22) ∨
 (op = 6 ∧ p = false ∧ re = 0 ∧ im = 0 ∧ b = (xk && yk && ceqB xr xi yr yi) ∧ er = 0) ∨
 ((op = 0 ∨ op = 1 ∨ op = 2 ∨ op = 3) ∧ (xk && yk) = false ∧ p = false ∧ re = 0 ∧ im = 0 ∧ b = false ∧ er = 24) ∨
 (op = 3 ∧ (xk && yk) = true ∧ ceqB yr yi 0 0 = true ∧ p = false ∧ re = 0 ∧ im = 0 ∧ b = false ∧ er = 23) ∨
 ((xk && yk) = true ∧ p = true ∧ b = false ∧ er = 0 ∧ ((op = 0 ∧ FO .add xr yr re ∧ FO .add xi yi im) ∨ (op = 1 ∧ FO .sub xr yr re ∧ FO .sub xi yi im) ∨ (op = 2 ∧ TimesR xr xi yr yi re im) ∨ (op = 3 ∧ ceqB yr yi 0 0 = false ∧ OverR xr xi yr yi re im)))
def PairsE (op : Int) (xr xi : Nat) (xk : Bool) (yr yi : Nat) (yk : Bool) (w w' : World) (e : Ending) : Prop :=
 ∃ p re im b er, e = .returned (.tuple #[.agg #[.bool p, .bool false, .slice none 0 0, .complex .f64 re im], .bool b, .int .i64 er]) ∧ PairsR op xr xi xk yr yi yk p re im b er ∧ Below w.heap.size w w'
theorem PairsE.mk {op : Int} {xr xi : Nat} {xk : Bool} {yr yi : Nat} {yk : Bool} {w w' : World} {e : Ending} (p : Bool) (re im : Nat) (b : Bool) (er : Int) (h : e = .returned (.tuple #[.agg #[.bool p, .bool false, .slice none 0 0, .complex .f64 re im], .bool b, .int .i64 er])) (hr : PairsR op xr xi xk yr yi yk p re im b er) (hb : Below w.heap.size w w') : PairsE op xr xi xk yr yi yk w w' e := ⟨p, re, im, b, er, h, hr, hb⟩
theorem number_pairs.calls (op : Int) (xp xs : Bool) (Ax : Option Addr) (nx cx : Nat) (xa xb : Nat) (yp ys : Bool) (Ay : Option Addr) (ny cy : Nat) (ya yb : Nat) (xr xi : Nat) (xk : Bool) (yr yi : Nat) (yk : Bool) (ho0 : 0 ≤ op) (ho7 : op ≤ 7) (w : World) (hwx : Gives118 w (.agg #[.bool xp, .bool xs, .slice Ax nx cx, .complex .f64 xa xb]) xr xi xk) (hwy : Gives118 w (.agg #[.bool yp, .bool ys, .slice Ay ny cy, .complex .f64 ya yb]) yr yi yk) :
  Calls Try.prog 95 #[.int .i64 op, .agg #[.bool xp, .bool xs, .slice Ax nx cx, .complex .f64 xa xb], .agg #[.bool yp, .bool ys, .slice Ay ny cy, .complex .f64 ya yb]] w fun e w' => PairsE op xr xi xk yr yi yk w w' e := by
 have hu24 := Try.underlying24
 have hu25 := Try.underlying25
 have hu61 := Try.underlying61
 have hop : (op = 0 ∧ True) ∨ (op = 1 ∧ True) ∨ (op = 2 ∧ True) ∨ (op = 3 ∧ ceqB yr yi 0 0 = true) ∨ (op = 3 ∧ ceqB yr yi 0 0 = false) ∨ (op = 4 ∧ True) ∨ (op = 5 ∧ True) ∨ (op = 6 ∧ True) ∨ (op = 7 ∧ True) := by
  by_cases hz : ceqB yr yi 0 0 = true
  ·simp only [hz, and_true, Bool.true_eq_false, and_false, false_or]; omega
  ·have hz : ceqB yr yi 0 0 = false := by simpa using hz
   simp only [hz, and_true, Bool.false_eq_true, and_false, false_or]; omega
 clear ho0 ho7
 have n_ := Aside0.mk hwx
 clear hwx
 have hwx := n_
 clear n_
 have n_ := Aside0.mk hwy
 clear hwy
 have hwy := n_
 clear n_
 have HBW := Aside0.mk (Below.refl w.heap.size w)
 have Z := Aside0.mk (show w.heap.size ≤ w.heap.size from Nat.le_refl _)
 rcases hop with ⟨rfl, hz1⟩ | ⟨rfl, hz1⟩ | ⟨rfl, hz1⟩ | ⟨rfl, hz1⟩ | ⟨rfl, hz1⟩ | ⟨rfl, hz1⟩ | ⟨rfl, hz1⟩ | ⟨rfl, hz1⟩ | ⟨rfl, hz1⟩ <;> cases xk <;> cases yk
 all_goals (
  have HZ := Aside0.mk hz1
  try unfold ceqB at hz1
  go_enter Try.func95, Try.ntmps95
  go_wp2_with (first
   | ((with_reducible refine gd 4 rfl ?_); refine bY 4 rfl #[.bool xp, .bool xs, .slice Ax nx cx, .complex .f64 xa xb] 61 ?_; intro b4 hg wa1 hbox hb K_; replace Z := zN Z K_ hg hbox; replace HBW := bS HBW hb; have a0 := Aside0.mk hbox; clear hb hbox hg K_; have a3 := z4 a0)
   | ((with_reducible refine gd 5 rfl ?_); refine bY 5 rfl #[.bool yp, .bool ys, .slice Ay ny cy, .complex .f64 ya yb] 61 ?_; intro b5 hg wa2 hbox hb K_; replace a0 := mvB a0 K_; replace Z := zN Z K_ hg hbox; replace HBW := bS HBW hb; have a1 := Aside0.mk hbox; clear hb hbox hg K_; replace a3 := z4 a0; have a4 := z4 a1)
   | ((with_reducible refine gd 6 rfl ?_); refine bY 6 rfl #[.bool false, .bool false, .slice none 0 0, .complex .f64 0 0] 61 ?_; intro b6 hg wa3 hbox hb K_; replace a0 := mvB a0 K_; replace a1 := mvB a1 K_; replace Z := zN Z K_ hg hbox; replace HBW := bS HBW hb; have a2 := Aside0.mk hbox; clear hb hbox hg K_; replace a3 := z4 a0; replace a4 := z4 a1; have a5 := zf4 a2; obtain ⟨a7, a9⟩ := neZ Z b6 b4; obtain ⟨a8, aa⟩ := neZ Z b6 b5)
   | ((with_reducible refine gd 16 rfl ?_); refine gU ?_; refine gc (some 16) Try.func118 #[.agg #[.bool xp, .bool xs, .slice Ax nx cx, .complex .f64 xa xb]] (hwx.out _ HBW.out) ?_; rintro e wa4 ⟨rfl, hb⟩; refine ⟨_, rfl, ?_⟩; have K_ := kb hb; replace a0 := mvB a0 K_; replace a1 := mvB a1 K_; replace a2 := mvB a2 K_; replace Z := zA Z (K_.1); replace HBW := bS HBW hb; clear hb K_; replace a3 := z4 a0; replace a4 := z4 a1; replace a5 := zf4 a2)
   | ((with_reducible refine gd 21 rfl ?_); refine gU ?_; refine gc (some 21) Try.func118 #[.agg #[.bool yp, .bool ys, .slice Ay ny cy, .complex .f64 ya yb]] (hwy.out _ HBW.out) ?_; rintro e wa5 ⟨rfl, hb⟩; refine ⟨_, rfl, ?_⟩; have K_ := kb hb; replace a0 := mvB a0 K_; replace a1 := mvB a1 K_; replace a2 := mvB a2 K_; replace Z := zA Z (K_.1); replace HBW := bS HBW hb; clear hb K_; replace a3 := z4 a0; replace a4 := z4 a1; replace a5 := zf4 a2)
   | ((with_reducible refine gd 70 rfl ?_); (try (refine gate_guard (by rfl) ?_; dsimp only)); refine cplx_event rfl rfl (by simp) rfl rfl ?_; intro re im wa6 hf a6 hb; have FA := Aside0.mk (And.intro hf a6); clear hf a6; have K_ := kb hb; replace a0 := mvB a0 K_; replace a1 := mvB a1 K_; replace a2 := mvB a2 K_; replace Z := zA Z (K_.1); replace HBW := bS HBW hb; clear hb K_; replace a3 := z4 a0; replace a4 := z4 a1; replace a5 := zf4 a2)
   | ((with_reducible refine gd 75 rfl ?_); (try (refine gate_guard (by rfl) ?_; dsimp only)); refine cplx_event rfl rfl (by simp) rfl rfl ?_; intro re im wa7 hf a6 hb; have FA := Aside0.mk (And.intro hf a6); clear hf a6; have K_ := kb hb; replace a0 := mvB a0 K_; replace a1 := mvB a1 K_; replace a2 := mvB a2 K_; replace Z := zA Z (K_.1); replace HBW := bS HBW hb; clear hb K_; replace a3 := z4 a0; replace a4 := z4 a1; replace a5 := zf4 a2)
   | ((with_reducible refine gd 80 rfl ?_); refine gU ?_; refine gc (some 80) Try.func119 #[.complex .f64 xr xi, .complex .f64 yr yi] (number_times.calls xr xi yr yi _) ?_; rintro e wa8 ⟨re, im, rfl, hf, hb⟩; refine ⟨_, rfl, ?_⟩; have K_ := kb hb; replace a0 := mvB a0 K_; replace a1 := mvB a1 K_; replace a2 := mvB a2 K_; replace Z := zA Z (K_.1); replace HBW := bS HBW hb; have FA := Aside0.mk hf; clear hf; clear hb K_; replace a3 := z4 a0; replace a4 := z4 a1; replace a5 := zf4 a2)
   | ((with_reducible refine gd 65 rfl ?_); refine gU ?_; refine gc (some 65) Try.func120 #[.complex .f64 xr xi, .complex .f64 yr yi] (number_over.calls xr xi yr yi _) ?_; rintro e wa9 ⟨re, im, rfl, hf, hb⟩; refine ⟨_, rfl, ?_⟩; have K_ := kb hb; replace a0 := mvB a0 K_; replace a1 := mvB a1 K_; replace a2 := mvB a2 K_; replace Z := zA Z (K_.1); replace HBW := bS HBW hb; have FA := Aside0.mk hf; clear hf; clear hb K_; replace a3 := z4 a0; replace a4 := z4 a1; replace a5 := zf4 a2)
   | ((with_reducible refine gd 82 rfl ?_); refine gU ?_; refine gc (some 82) Try.func101 #[.complex .f64 re im] (number_pair.calls re im _) ?_; rintro e wa10 ⟨rfl, hb⟩; refine ⟨_, rfl, ?_⟩; have K_ := kb hb; replace a0 := mvB a0 K_; replace a1 := mvB a1 K_; replace a2 := mvB a2 K_; replace Z := zA Z (K_.1); replace HBW := bS HBW hb; clear hb K_; replace a3 := z4 a0; replace a4 := z4 a1; replace a5 := zf4 a2))
  first
   | (refine bodyPost_ret (results_ctt3 rfl _ _ b6 61 #[.bool true, .bool false, .slice none 0 0, .complex .f64 re im] (0, 0) _ rfl (bp a2) Try.underlying61 rfl (by kernel_rfl)) rfl ?_; exact PairsE.mk true re im false 0 rfl (by simp [PairsR, FA.out, HZ.out]) (below_set (below_set (below_set (below_set (HBW.out) (by have hZ := Z.out; omega)) (by have hZ := Z.out; omega)) (by have hZ := Z.out; omega)) (by have hZ := Z.out; omega)))
   | (refine bodyPost_ret (results_ctt3 rfl _ _ b6 61 #[.bool false, .bool false, .slice none 0 0, .complex .f64 0 0] (0, 0) _ rfl (bp a2) Try.underlying61 rfl (by kernel_rfl)) rfl ?_; exact PairsE.mk false 0 0 _ _ rfl (by first | (simp [PairsR, HZ.out]; done) | (simp [PairsR, ceqB]; done)) (below_set (below_set (below_set (below_set (HBW.out) (by have hZ := Z.out; omega)) (by have hZ := Z.out; omega)) (by have hZ := Z.out; omega)) (by have hZ := Z.out; omega))))
attribute [local go_sem] stC stF
theorem results_ct3 {P : Program} {fn : Func} {p u : Tmp} {ty : TypeId} (h : fn.results = #[.cell p ty, .tmp u]) (tmps : Array Value) (w : World) (g : Nat) (t : TypeId) (cs : Array Value) (fr : Nat × Nat) (d : TypeDesc)
  (hp : tmps.getD p undef = .pointer (some ⟨g, 0, none⟩)) (hg : w.heap[g]? = some (.cells cs t fr))
  (hu : P.underlying ty = some d) (hd : (match d with | .struct _ | .array _ _ => true | _ => false) = true) (hi : (P.info? ty).map (·.size) = some cs.size) :
  (results fn tmps).run P w = .ok (.tuple #[.agg cs, tmps.getD u undef]) w := by
 have hp' : tmps[p]?.getD undef = .pointer (some ⟨g, 0, none⟩) := by simpa using hp
 simp [results, h, hp', asAddr, run_loadVar_row w g t ty cs fr d hg hu hd hi]
/-- Whether a number may be, told of the call. -/
def Gives58 (w : World) (x : Value) (r : Bool) : Prop := ∀ W : World, Below w.heap.size w W → Calls Try.prog 58 #[x] W fun e w' => e = .returned (.bool r) ∧ Below W.heap.size W w'
theorem Gives58.later {w v : World} {x : Value} {r : Bool} (h : Gives58 w x r) (hb : Below w.heap.size w v) : Gives58 v x r := fun W hW => h W (below_step hb hW)
theorem Gives118.later {w v : World} {x : Value} {r i : Nat} {k : Bool} (h : Gives118 w x r i k) (hb : Below w.heap.size w v) : Gives118 v x r i k := fun W hW => h W (below_step hb hW)
/-! ### number.Do, where it comes to complex numbers -/
theorem number_Do.pairs (op : Int) (xp xs : Bool) (Ax : Option Addr) (nx cx : Nat) (xa xb : Nat) (yp ys : Bool) (Ay : Option Addr) (ny cy : Nat) (ya yb : Nat) (xr xi : Nat) (xk : Bool) (yr yi : Nat) (yk : Bool) (af : 0 ≤ op) (aa : op ≤ 7) (hpp : xp = true ∨ (xp = false ∧ yp = true) ∨ (xp = false ∧ yp = false ∧ op = 3)) (w : World) (hgx : Gives58 w (.agg #[.bool xp, .bool xs, .slice Ax nx cx, .complex .f64 xa xb]) true) (hgy : Gives58 w (.agg #[.bool yp, .bool ys, .slice Ay ny cy, .complex .f64 ya yb]) true) (hwx : Gives118 w (.agg #[.bool xp, .bool xs, .slice Ax nx cx, .complex .f64 xa xb]) xr xi xk) (hwy : Gives118 w (.agg #[.bool yp, .bool ys, .slice Ay ny cy, .complex .f64 ya yb]) yr yi yk) :
  Calls Try.prog 52 #[.int .i64 op, .agg #[.bool xp, .bool xs, .slice Ax nx cx, .complex .f64 xa xb], .agg #[.bool yp, .bool ys, .slice Ay ny cy, .complex .f64 ya yb]] w fun e w' => PairsE op xr xi xk yr yi yk w w' e := by
 have hu24 := Try.underlying24
 have hu25 := Try.underlying25
 have hu61 := Try.underlying61
 have HO := Aside0.mk (And.intro af aa)
 have h1 : ¬ op < 0 := by omega
 have h2 : ¬ 7 < op := by omega
 have h3 : ¬ op > 7 := by omega
 clear af aa
 have n_ := Aside0.mk hgx
 clear hgx
 have hgx := n_
 clear n_
 have n_ := Aside0.mk hgy
 clear hgy
 have hgy := n_
 clear n_
 have n_ := Aside0.mk hwx
 clear hwx
 have hwx := n_
 clear n_
 have n_ := Aside0.mk hwy
 clear hwy
 have hwy := n_
 clear n_
 have HBW := Aside0.mk (Below.refl w.heap.size w)
 have Z := Aside0.mk (show w.heap.size ≤ w.heap.size from Nat.le_refl _)
 rcases hpp with rfl | ⟨rfl, rfl⟩ | ⟨rfl, rfl, rfl⟩
 ·go_enter Try.func52, Try.ntmps52
  go_wp2_with (first
   | ((with_reducible refine gd 4 rfl ?_); refine bY 4 rfl #[.bool true, .bool xs, .slice Ax nx cx, .complex .f64 xa xb] 61 ?_; intro b4 hg ae hbox hb K_; replace Z := zN Z K_ hg hbox; replace HBW := bS HBW hb; have a0 := Aside0.mk hbox; clear hb hbox hg K_; have a3 := z4 a0)
   | ((with_reducible refine gd 5 rfl ?_); refine bY 5 rfl #[.bool yp, .bool ys, .slice Ay ny cy, .complex .f64 ya yb] 61 ?_; intro b5 hg ab hbox hb K_; replace a0 := mvB a0 K_; replace Z := zN Z K_ hg hbox; replace HBW := bS HBW hb; have a1 := Aside0.mk hbox; clear hb hbox hg K_; replace a3 := z4 a0; have a4 := z4 a1)
   | ((with_reducible refine gd 6 rfl ?_); refine bY 6 rfl #[.bool false, .bool false, .slice none 0 0, .complex .f64 0 0] 61 ?_; intro b6 hg ag hbox hb K_; replace a0 := mvB a0 K_; replace a1 := mvB a1 K_; replace Z := zN Z K_ hg hbox; replace HBW := bS HBW hb; have a2 := Aside0.mk hbox; clear hb hbox hg K_; replace a3 := z4 a0; replace a4 := z4 a1; have a5 := zf4 a2; obtain ⟨a6, a8⟩ := neZ Z b6 b4; obtain ⟨a7, a9⟩ := neZ Z b6 b5)
   | ((with_reducible refine gd 21 rfl ?_); refine gU ?_; refine gc (some 21) Try.func58 #[.agg #[.bool true, .bool xs, .slice Ax nx cx, .complex .f64 xa xb]] (hgx.out _ HBW.out) ?_; rintro e ah ⟨rfl, hb⟩; refine ⟨_, rfl, ?_⟩; have K_ := kb hb; replace a0 := mvB a0 K_; replace a1 := mvB a1 K_; replace a2 := mvB a2 K_; replace Z := zA Z (K_.1); replace HBW := bS HBW hb; clear hb K_; replace a3 := z4 a0; replace a4 := z4 a1; replace a5 := zf4 a2)
   | ((with_reducible refine gd 26 rfl ?_); refine gU ?_; refine gc (some 26) Try.func58 #[.agg #[.bool yp, .bool ys, .slice Ay ny cy, .complex .f64 ya yb]] (hgy.out _ HBW.out) ?_; rintro e ac ⟨rfl, hb⟩; refine ⟨_, rfl, ?_⟩; have K_ := kb hb; replace a0 := mvB a0 K_; replace a1 := mvB a1 K_; replace a2 := mvB a2 K_; replace Z := zA Z (K_.1); replace HBW := bS HBW hb; clear hb K_; replace a3 := z4 a0; replace a4 := z4 a1; replace a5 := zf4 a2)
   | ((with_reducible refine gd 44 rfl ?_); refine gU ?_; refine gc (some 44) Try.func95 #[.int .i64 op, .agg #[.bool true, .bool xs, .slice Ax nx cx, .complex .f64 xa xb], .agg #[.bool yp, .bool ys, .slice Ay ny cy, .complex .f64 ya yb]] (number_pairs.calls op _ _ _ _ _ _ _ _ _ _ _ _ _ _ xr xi xk yr yi yk HO.out.1 HO.out.2 _ (hwx.out.later HBW.out) (hwy.out.later HBW.out)) ?_; rintro e ad ⟨p, re, im, b, er, rfl, hf, hb⟩; refine ⟨_, rfl, ?_⟩; have K_ := kb hb; replace a0 := mvB a0 K_; replace a1 := mvB a1 K_; replace a2 := mvB a2 K_; replace Z := zA Z (K_.1); replace HBW := bS HBW hb; have FA := Aside0.mk hf; clear hf; clear hb K_; replace a3 := z4 a0; replace a4 := z4 a1; replace a5 := zf4 a2))
  refine bodyPost_ret (results_ctt3 rfl _ _ b6 61 #[.bool p, .bool false, .slice none 0 0, .complex .f64 re im] (0, 0) _ rfl (bp a2) Try.underlying61 rfl (by kernel_rfl)) rfl ?_
  exact PairsE.mk _ _ _ _ _ rfl FA.out (below_set (below_set (below_set (below_set (HBW.out) (by have hZ := Z.out; omega)) (by have hZ := Z.out; omega)) (by have hZ := Z.out; omega)) (by have hZ := Z.out; omega))
 ·go_enter Try.func52, Try.ntmps52
  go_wp2_with (first
   | ((with_reducible refine gd 4 rfl ?_); refine bY 4 rfl #[.bool false, .bool xs, .slice Ax nx cx, .complex .f64 xa xb] 61 ?_; intro b4 hg ae hbox hb K_; replace Z := zN Z K_ hg hbox; replace HBW := bS HBW hb; have a0 := Aside0.mk hbox; clear hb hbox hg K_; have a3 := z4 a0)
   | ((with_reducible refine gd 5 rfl ?_); refine bY 5 rfl #[.bool true, .bool ys, .slice Ay ny cy, .complex .f64 ya yb] 61 ?_; intro b5 hg ab hbox hb K_; replace a0 := mvB a0 K_; replace Z := zN Z K_ hg hbox; replace HBW := bS HBW hb; have a1 := Aside0.mk hbox; clear hb hbox hg K_; replace a3 := z4 a0; have a4 := z4 a1)
   | ((with_reducible refine gd 6 rfl ?_); refine bY 6 rfl #[.bool false, .bool false, .slice none 0 0, .complex .f64 0 0] 61 ?_; intro b6 hg ag hbox hb K_; replace a0 := mvB a0 K_; replace a1 := mvB a1 K_; replace Z := zN Z K_ hg hbox; replace HBW := bS HBW hb; have a2 := Aside0.mk hbox; clear hb hbox hg K_; replace a3 := z4 a0; replace a4 := z4 a1; have a5 := zf4 a2; obtain ⟨a6, a8⟩ := neZ Z b6 b4; obtain ⟨a7, a9⟩ := neZ Z b6 b5)
   | ((with_reducible refine gd 21 rfl ?_); refine gU ?_; refine gc (some 21) Try.func58 #[.agg #[.bool false, .bool xs, .slice Ax nx cx, .complex .f64 xa xb]] (hgx.out _ HBW.out) ?_; rintro e ah ⟨rfl, hb⟩; refine ⟨_, rfl, ?_⟩; have K_ := kb hb; replace a0 := mvB a0 K_; replace a1 := mvB a1 K_; replace a2 := mvB a2 K_; replace Z := zA Z (K_.1); replace HBW := bS HBW hb; clear hb K_; replace a3 := z4 a0; replace a4 := z4 a1; replace a5 := zf4 a2)
   | ((with_reducible refine gd 26 rfl ?_); refine gU ?_; refine gc (some 26) Try.func58 #[.agg #[.bool true, .bool ys, .slice Ay ny cy, .complex .f64 ya yb]] (hgy.out _ HBW.out) ?_; rintro e ac ⟨rfl, hb⟩; refine ⟨_, rfl, ?_⟩; have K_ := kb hb; replace a0 := mvB a0 K_; replace a1 := mvB a1 K_; replace a2 := mvB a2 K_; replace Z := zA Z (K_.1); replace HBW := bS HBW hb; clear hb K_; replace a3 := z4 a0; replace a4 := z4 a1; replace a5 := zf4 a2)
   | ((with_reducible refine gd 44 rfl ?_); refine gU ?_; refine gc (some 44) Try.func95 #[.int .i64 op, .agg #[.bool false, .bool xs, .slice Ax nx cx, .complex .f64 xa xb], .agg #[.bool true, .bool ys, .slice Ay ny cy, .complex .f64 ya yb]] (number_pairs.calls op _ _ _ _ _ _ _ _ _ _ _ _ _ _ xr xi xk yr yi yk HO.out.1 HO.out.2 _ (hwx.out.later HBW.out) (hwy.out.later HBW.out)) ?_; rintro e ad ⟨p, re, im, b, er, rfl, hf, hb⟩; refine ⟨_, rfl, ?_⟩; have K_ := kb hb; replace a0 := mvB a0 K_; replace a1 := mvB a1 K_; replace a2 := mvB a2 K_; replace Z := zA Z (K_.1); replace HBW := bS HBW hb; have FA := Aside0.mk hf; clear hf; clear hb K_; replace a3 := z4 a0; replace a4 := z4 a1; replace a5 := zf4 a2))
  refine bodyPost_ret (results_ctt3 rfl _ _ b6 61 #[.bool p, .bool false, .slice none 0 0, .complex .f64 re im] (0, 0) _ rfl (bp a2) Try.underlying61 rfl (by kernel_rfl)) rfl ?_
  exact PairsE.mk _ _ _ _ _ rfl FA.out (below_set (below_set (below_set (below_set (HBW.out) (by have hZ := Z.out; omega)) (by have hZ := Z.out; omega)) (by have hZ := Z.out; omega)) (by have hZ := Z.out; omega))
 ·go_enter Try.func52, Try.ntmps52
  go_wp2_with (first
   | ((with_reducible refine gd 4 rfl ?_); refine bY 4 rfl #[.bool false, .bool xs, .slice Ax nx cx, .complex .f64 xa xb] 61 ?_; intro b4 hg ae hbox hb K_; replace Z := zN Z K_ hg hbox; replace HBW := bS HBW hb; have a0 := Aside0.mk hbox; clear hb hbox hg K_; have a3 := z4 a0)
   | ((with_reducible refine gd 5 rfl ?_); refine bY 5 rfl #[.bool false, .bool ys, .slice Ay ny cy, .complex .f64 ya yb] 61 ?_; intro b5 hg ab hbox hb K_; replace a0 := mvB a0 K_; replace Z := zN Z K_ hg hbox; replace HBW := bS HBW hb; have a1 := Aside0.mk hbox; clear hb hbox hg K_; replace a3 := z4 a0; have a4 := z4 a1)
   | ((with_reducible refine gd 6 rfl ?_); refine bY 6 rfl #[.bool false, .bool false, .slice none 0 0, .complex .f64 0 0] 61 ?_; intro b6 hg ag hbox hb K_; replace a0 := mvB a0 K_; replace a1 := mvB a1 K_; replace Z := zN Z K_ hg hbox; replace HBW := bS HBW hb; have a2 := Aside0.mk hbox; clear hb hbox hg K_; replace a3 := z4 a0; replace a4 := z4 a1; have a5 := zf4 a2; obtain ⟨a6, a8⟩ := neZ Z b6 b4; obtain ⟨a7, a9⟩ := neZ Z b6 b5)
   | ((with_reducible refine gd 21 rfl ?_); refine gU ?_; refine gc (some 21) Try.func58 #[.agg #[.bool false, .bool xs, .slice Ax nx cx, .complex .f64 xa xb]] (hgx.out _ HBW.out) ?_; rintro e ah ⟨rfl, hb⟩; refine ⟨_, rfl, ?_⟩; have K_ := kb hb; replace a0 := mvB a0 K_; replace a1 := mvB a1 K_; replace a2 := mvB a2 K_; replace Z := zA Z (K_.1); replace HBW := bS HBW hb; clear hb K_; replace a3 := z4 a0; replace a4 := z4 a1; replace a5 := zf4 a2)
   | ((with_reducible refine gd 26 rfl ?_); refine gU ?_; refine gc (some 26) Try.func58 #[.agg #[.bool false, .bool ys, .slice Ay ny cy, .complex .f64 ya yb]] (hgy.out _ HBW.out) ?_; rintro e ac ⟨rfl, hb⟩; refine ⟨_, rfl, ?_⟩; have K_ := kb hb; replace a0 := mvB a0 K_; replace a1 := mvB a1 K_; replace a2 := mvB a2 K_; replace Z := zA Z (K_.1); replace HBW := bS HBW hb; clear hb K_; replace a3 := z4 a0; replace a4 := z4 a1; replace a5 := zf4 a2)
   | ((with_reducible refine gd 44 rfl ?_); refine gU ?_; refine gc (some 44) Try.func95 #[.int .i64 3, .agg #[.bool false, .bool xs, .slice Ax nx cx, .complex .f64 xa xb], .agg #[.bool false, .bool ys, .slice Ay ny cy, .complex .f64 ya yb]] (number_pairs.calls 3 _ _ _ _ _ _ _ _ _ _ _ _ _ _ xr xi xk yr yi yk HO.out.1 HO.out.2 _ (hwx.out.later HBW.out) (hwy.out.later HBW.out)) ?_; rintro e ad ⟨p, re, im, b, er, rfl, hf, hb⟩; refine ⟨_, rfl, ?_⟩; have K_ := kb hb; replace a0 := mvB a0 K_; replace a1 := mvB a1 K_; replace a2 := mvB a2 K_; replace Z := zA Z (K_.1); replace HBW := bS HBW hb; have FA := Aside0.mk hf; clear hf; clear hb K_; replace a3 := z4 a0; replace a4 := z4 a1; replace a5 := zf4 a2))
  refine bodyPost_ret (results_ctt3 rfl _ _ b6 61 #[.bool p, .bool false, .slice none 0 0, .complex .f64 re im] (0, 0) _ rfl (bp a2) Try.underlying61 rfl (by kernel_rfl)) rfl ?_
  exact PairsE.mk _ _ _ _ _ rfl FA.out (below_set (below_set (below_set (below_set (HBW.out) (by have hZ := Z.out; omega)) (by have hZ := Z.out; omega)) (by have hZ := Z.out; omega)) (by have hZ := Z.out; omega))
/-! ### number.Pair -/
theorem number_Pair.calls (xs : Bool) (Ax : Option Addr) (cx : Nat) (lx : List Int) (ys : Bool) (Ay : Option Addr) (cy : Nat) (ly : List Int) (k1 k2 : Nat) (n m : Int) (w : World) (hrx : Kd.C (Kd.int .u8) w Ax lx.length lx) (hcx : lx.length ≤ cx) (hry : Kd.C (Kd.int .u8) w Ay ly.length ly) (hcy : ly.length ≤ cy) (h1 : whole_Right.f xs lx = some true) (h2 : whole_Right.f ys ly = some true) (h3 : whole_Small.f k1 xs lx = some (n, true)) (h4 : whole_Small.f k2 ys ly = some (m, true)) :
  Calls Try.prog 59 #[.agg #[.bool xs, .slice Ax lx.length cx], .agg #[.bool ys, .slice Ay ly.length cy]] w fun e w' => e = .returned (.tuple #[.agg #[.bool true, .bool false, .slice none 0 0, .complex .f64 (FloatKind.f64.nearest n) (FloatKind.f64.nearest m)], .int .i64 0]) ∧ Below w.heap.size w w' := by
 have hu24 := Try.underlying24
 have hu25 := Try.underlying25
 have hu61 := Try.underlying61
 have n_ := Aside0.mk hrx
 clear hrx
 have hrx := n_
 clear n_
 have n_ := Aside0.mk hcx
 clear hcx
 have hcx := n_
 clear n_
 have n_ := Aside0.mk hry
 clear hry
 have hry := n_
 clear n_
 have n_ := Aside0.mk hcy
 clear hcy
 have hcy := n_
 clear n_
 have n_ := Aside0.mk h1
 clear h1
 have h1 := n_
 clear n_
 have n_ := Aside0.mk h2
 clear h2
 have h2 := n_
 clear n_
 have n_ := Aside0.mk h3
 clear h3
 have h3 := n_
 clear n_
 have n_ := Aside0.mk h4
 clear h4
 have h4 := n_
 clear n_
 have HBW := Aside0.mk (Below.refl w.heap.size w)
 have Z := Aside0.mk (show w.heap.size ≤ w.heap.size from Nat.le_refl _)
 go_enter Try.func59, Try.ntmps59
 go_wp2_with (first
  | ((with_reducible refine gd 2 rfl ?_); refine bY 2 rfl #[.bool xs, .slice Ax lx.length cx] 25 ?_; intro b2 hg wa1 hbox hb K_; replace Z := zN Z K_ hg hbox; replace HBW := bS HBW hb; have a0 := Aside0.mk hbox; clear hb hbox hg K_; have a3 := z2 a0)
  | ((with_reducible refine gd 3 rfl ?_); refine bY 3 rfl #[.bool ys, .slice Ay ly.length cy] 25 ?_; intro b3 hg wa2 hbox hb K_; replace a0 := mvB a0 K_; replace Z := zN Z K_ hg hbox; replace HBW := bS HBW hb; have a1 := Aside0.mk hbox; clear hb hbox hg K_; replace a3 := z2 a0; have a4 := z2 a1)
  | ((with_reducible refine gd 4 rfl ?_); refine bY 4 rfl #[.bool false, .bool false, .slice none 0 0, .complex .f64 0 0] 61 ?_; intro b4 hg wa3 hbox hb K_; replace a0 := mvB a0 K_; replace a1 := mvB a1 K_; replace Z := zN Z K_ hg hbox; replace HBW := bS HBW hb; have a2 := Aside0.mk hbox; clear hb hbox hg K_; replace a3 := z2 a0; replace a4 := z2 a1; have a5 := zf4 a2; obtain ⟨a9, a7⟩ := neZ Z b4 b2; obtain ⟨a6, a8⟩ := neZ Z b4 b3)
  | ((with_reducible refine gd 11 rfl ?_); refine gU ?_; refine gc (some 11) Try.func39 #[.agg #[.bool xs, .slice Ax lx.length cx]] (whole_Right.calls xs _ _ lx true _ (Kd.C_below hrx.out HBW.out) hcx.out h1.out) ?_; rintro e wa4 ⟨rfl, hb⟩; refine ⟨_, rfl, ?_⟩; have K_ := kb hb; replace a0 := mvB a0 K_; replace a1 := mvB a1 K_; replace a2 := mvB a2 K_; replace Z := zA Z (K_.1); replace HBW := bS HBW hb; clear hb K_; replace a3 := z2 a0; replace a4 := z2 a1; replace a5 := zf4 a2)
  | ((with_reducible refine gd 15 rfl ?_); refine gU ?_; refine gc (some 15) Try.func39 #[.agg #[.bool ys, .slice Ay ly.length cy]] (whole_Right.calls ys _ _ ly true _ (Kd.C_below hry.out HBW.out) hcy.out h2.out) ?_; rintro e wa5 ⟨rfl, hb⟩; refine ⟨_, rfl, ?_⟩; have K_ := kb hb; replace a0 := mvB a0 K_; replace a1 := mvB a1 K_; replace a2 := mvB a2 K_; replace Z := zA Z (K_.1); replace HBW := bS HBW hb; clear hb K_; replace a3 := z2 a0; replace a4 := z2 a1; replace a5 := zf4 a2)
  | ((with_reducible refine gd 21 rfl ?_); refine gU ?_; refine gc (some 21) Try.func100 #[.agg #[.bool xs, .slice Ax lx.length cx]] (number_float.calls xs _ _ lx k1 n true _ (Kd.C_below hrx.out HBW.out) hcx.out h3.out) ?_; rintro e wa6 ⟨rfl, hb⟩; refine ⟨_, rfl, ?_⟩; have K_ := kb hb; replace a0 := mvB a0 K_; replace a1 := mvB a1 K_; replace a2 := mvB a2 K_; replace Z := zA Z (K_.1); replace HBW := bS HBW hb; clear hb K_; replace a3 := z2 a0; replace a4 := z2 a1; replace a5 := zf4 a2)
  | ((with_reducible refine gd 26 rfl ?_); refine gU ?_; refine gc (some 26) Try.func100 #[.agg #[.bool ys, .slice Ay ly.length cy]] (number_float.calls ys _ _ ly k2 m true _ (Kd.C_below hry.out HBW.out) hcy.out h4.out) ?_; rintro e wa7 ⟨rfl, hb⟩; refine ⟨_, rfl, ?_⟩; have K_ := kb hb; replace a0 := mvB a0 K_; replace a1 := mvB a1 K_; replace a2 := mvB a2 K_; replace Z := zA Z (K_.1); replace HBW := bS HBW hb; clear hb K_; replace a3 := z2 a0; replace a4 := z2 a1; replace a5 := zf4 a2)
  | ((with_reducible refine gd 39 rfl ?_); refine gU ?_; refine gc (some 39) Try.func101 #[.complex .f64 (FloatKind.f64.nearest n) (FloatKind.f64.nearest m)] (number_pair.calls _ _ _) ?_; rintro e wa8 ⟨rfl, hb⟩; refine ⟨_, rfl, ?_⟩; have K_ := kb hb; replace a0 := mvB a0 K_; replace a1 := mvB a1 K_; replace a2 := mvB a2 K_; replace Z := zA Z (K_.1); replace HBW := bS HBW hb; clear hb K_; replace a3 := z2 a0; replace a4 := z2 a1; replace a5 := zf4 a2))
 refine bodyPost_ret (results_ct3 rfl _ _ b4 61 #[.bool true, .bool false, .slice none 0 0, .complex .f64 (FloatKind.f64.nearest n) (FloatKind.f64.nearest m)] (0, 0) _ rfl (bp a2) Try.underlying61 rfl (by kernel_rfl)) rfl ?_
 exact ⟨rfl, below_set (below_set (below_set (below_set (HBW.out) (by have hZ := Z.out; omega)) (by have hZ := Z.out; omega)) (by have hZ := Z.out; omega)) (by have hZ := Z.out; omega)⟩
end Go.Proofs.Ytfjbhccapgnkiaa.P
