import Derived.Test.YtfjbhccapgnkiaaN6
import Derived.Test.YtfjbhccapgnkiaaB7
namespace Go.Proofs.Ytfjbhccapgnkiaa.P
open Go.RowKit Go.Proofs.YtfjbhccapgnkiaaW.PrintWords Go.Proofs.YtfjbhccapgnkiaaW.PrintLast Go.Proofs.YtfjbhccapgnkiaaW.PrintMore
attribute [local go_sem] max2_int min2_int max_two min_two max_three min_three max_four min_four
set_option linter.unusedVariables false
set_option maxHeartbeats 16000000
set_option maxRecDepth 100000
set_option linter.unusedSimpArgs false
attribute [local go_sem] stC stF
/-! ### number.Do of whole numbers, and what cannot be -/
theorem number_Do.badx (op : Int) (xp : Bool) (xs : Bool) (Ax : Option Addr) (cx : Nat) (lx : List Int) (xa xb : Nat) (yp : Bool) (ys : Bool) (Ay : Option Addr) (cy : Nat) (ly : List Int) (ya yb : Nat) (ho0 : 0 ≤ op) (ho7 : op ≤ 7) (w : World) (hgx : Gives58 w (.agg #[.bool xp, .bool xs, .slice Ax lx.length cx, .complex .f64 xa xb]) false) :
  Calls Try.prog 52 #[.int .i64 op, .agg #[.bool xp, .bool xs, .slice Ax lx.length cx, .complex .f64 xa xb], .agg #[.bool yp, .bool ys, .slice Ay ly.length cy, .complex .f64 ya yb]] w fun e w' => e = .returned (.tuple #[.agg #[.bool false, .bool false, .slice none 0 0, .complex .f64 0 0], .bool false, .int .i64 1]) ∧ Below w.heap.size w w' := by
 have hu24 := Try.underlying24
 have hu25 := Try.underlying25
 have hu61 := Try.underlying61
 have h1 : ¬ op < 0 := by omega
 have h2 : ¬ 7 < op := by omega
 have h3 : ¬ op > 7 := by omega
 clear ho0 ho7
 have n_ := Aside0.mk hgx
 clear hgx
 have hgx := n_
 clear n_
 have HBW := Aside0.mk (Below.refl w.heap.size w)
 have Z := Aside0.mk (show w.heap.size ≤ w.heap.size from Nat.le_refl _)
 go_enter Try.func52, Try.ntmps52
 go_wp2_with (first
  | ((with_reducible refine gd 4 rfl ?_); refine bY 4 rfl #[.bool xp, .bool xs, .slice Ax lx.length cx, .complex .f64 xa xb] 61 ?_; intro b4 hg wa1 hbox hb K_; replace Z := zN Z K_ hg hbox; replace HBW := bS HBW hb; have a0 := Aside0.mk hbox; clear hb hbox hg K_; have a3 := z4 a0)
  | ((with_reducible refine gd 5 rfl ?_); refine bY 5 rfl #[.bool yp, .bool ys, .slice Ay ly.length cy, .complex .f64 ya yb] 61 ?_; intro b5 hg wa2 hbox hb K_; replace a0 := mvB a0 K_; replace Z := zN Z K_ hg hbox; replace HBW := bS HBW hb; have a1 := Aside0.mk hbox; clear hb hbox hg K_; replace a3 := z4 a0; have a7 := z4 a1)
  | ((with_reducible refine gd 6 rfl ?_); refine bY 6 rfl #[.bool false, .bool false, .slice none 0 0, .complex .f64 0 0] 61 ?_; intro b6 hg wa3 hbox hb K_; replace a0 := mvB a0 K_; replace a1 := mvB a1 K_; replace Z := zN Z K_ hg hbox; replace HBW := bS HBW hb; have a2 := Aside0.mk hbox; clear hb hbox hg K_; replace a3 := z4 a0; replace a7 := z4 a1; have zb6 := zf4 a2; obtain ⟨a4, a6⟩ := neZ Z b6 b4; obtain ⟨a5, a8⟩ := neZ Z b6 b5)
  | ((with_reducible refine gd 21 rfl ?_); refine gU ?_; refine gc (some 21) Try.func58 #[.agg #[.bool xp, .bool xs, .slice Ax lx.length cx, .complex .f64 xa xb]] (hgx.out _ HBW.out) ?_; rintro e wa4 ⟨rfl, hb⟩; refine ⟨_, rfl, ?_⟩; have K_ := kb hb; replace a0 := mvB a0 K_; replace a1 := mvB a1 K_; replace a2 := mvB a2 K_; replace Z := zA Z (K_.1); replace HBW := bS HBW hb; clear hb K_; replace a3 := z4 a0; replace a7 := z4 a1; replace zb6 := zf4 a2))
 refine bodyPost_ret (results_ctt3 rfl _ _ b6 61 #[.bool false, .bool false, .slice none 0 0, .complex .f64 0 0] (0, 0) _ rfl (bp a2) Try.underlying61 rfl (by kernel_rfl)) rfl ?_
 exact ⟨rfl, below_set (below_set (below_set (below_set (HBW.out) (by have hZ := Z.out; omega)) (by have hZ := Z.out; omega)) (by have hZ := Z.out; omega)) (by have hZ := Z.out; omega)⟩
theorem number_Do.bady (op : Int) (xp : Bool) (xs : Bool) (Ax : Option Addr) (cx : Nat) (lx : List Int) (xa xb : Nat) (yp : Bool) (ys : Bool) (Ay : Option Addr) (cy : Nat) (ly : List Int) (ya yb : Nat) (ho0 : 0 ≤ op) (ho7 : op ≤ 7) (w : World) (hgx : Gives58 w (.agg #[.bool xp, .bool xs, .slice Ax lx.length cx, .complex .f64 xa xb]) true) (hgy : Gives58 w (.agg #[.bool yp, .bool ys, .slice Ay ly.length cy, .complex .f64 ya yb]) false) :
  Calls Try.prog 52 #[.int .i64 op, .agg #[.bool xp, .bool xs, .slice Ax lx.length cx, .complex .f64 xa xb], .agg #[.bool yp, .bool ys, .slice Ay ly.length cy, .complex .f64 ya yb]] w fun e w' => e = .returned (.tuple #[.agg #[.bool false, .bool false, .slice none 0 0, .complex .f64 0 0], .bool false, .int .i64 1]) ∧ Below w.heap.size w w' := by
 have hu24 := Try.underlying24
 have hu25 := Try.underlying25
 have hu61 := Try.underlying61
 have h1 : ¬ op < 0 := by omega
 have h2 : ¬ 7 < op := by omega
 have h3 : ¬ op > 7 := by omega
 clear ho0 ho7
 have n_ := Aside0.mk hgx
 clear hgx
 have hgx := n_
 clear n_
 have n_ := Aside0.mk hgy
 clear hgy
 have hgy := n_
 clear n_
 have HBW := Aside0.mk (Below.refl w.heap.size w)
 have Z := Aside0.mk (show w.heap.size ≤ w.heap.size from Nat.le_refl _)
 go_enter Try.func52, Try.ntmps52
 go_wp2_with (first
  | ((with_reducible refine gd 4 rfl ?_); refine bY 4 rfl #[.bool xp, .bool xs, .slice Ax lx.length cx, .complex .f64 xa xb] 61 ?_; intro b4 hg wa1 hbox hb K_; replace Z := zN Z K_ hg hbox; replace HBW := bS HBW hb; have a0 := Aside0.mk hbox; clear hb hbox hg K_; have a3 := z4 a0)
  | ((with_reducible refine gd 5 rfl ?_); refine bY 5 rfl #[.bool yp, .bool ys, .slice Ay ly.length cy, .complex .f64 ya yb] 61 ?_; intro b5 hg wa2 hbox hb K_; replace a0 := mvB a0 K_; replace Z := zN Z K_ hg hbox; replace HBW := bS HBW hb; have a1 := Aside0.mk hbox; clear hb hbox hg K_; replace a3 := z4 a0; have a4 := z4 a1)
  | ((with_reducible refine gd 6 rfl ?_); refine bY 6 rfl #[.bool false, .bool false, .slice none 0 0, .complex .f64 0 0] 61 ?_; intro b6 hg wa3 hbox hb K_; replace a0 := mvB a0 K_; replace a1 := mvB a1 K_; replace Z := zN Z K_ hg hbox; replace HBW := bS HBW hb; have a2 := Aside0.mk hbox; clear hb hbox hg K_; replace a3 := z4 a0; replace a4 := z4 a1; have a9 := zf4 a2; obtain ⟨a5, a7⟩ := neZ Z b6 b4; obtain ⟨a6, a8⟩ := neZ Z b6 b5)
  | ((with_reducible refine gd 21 rfl ?_); refine gU ?_; refine gc (some 21) Try.func58 #[.agg #[.bool xp, .bool xs, .slice Ax lx.length cx, .complex .f64 xa xb]] (hgx.out _ HBW.out) ?_; rintro e wa4 ⟨rfl, hb⟩; refine ⟨_, rfl, ?_⟩; have K_ := kb hb; replace a0 := mvB a0 K_; replace a1 := mvB a1 K_; replace a2 := mvB a2 K_; replace Z := zA Z (K_.1); replace HBW := bS HBW hb; clear hb K_; replace a3 := z4 a0; replace a4 := z4 a1; replace a9 := zf4 a2)
  | ((with_reducible refine gd 26 rfl ?_); refine gU ?_; refine gc (some 26) Try.func58 #[.agg #[.bool yp, .bool ys, .slice Ay ly.length cy, .complex .f64 ya yb]] (hgy.out _ HBW.out) ?_; rintro e wa5 ⟨rfl, hb⟩; refine ⟨_, rfl, ?_⟩; have K_ := kb hb; replace a0 := mvB a0 K_; replace a1 := mvB a1 K_; replace a2 := mvB a2 K_; replace Z := zA Z (K_.1); replace HBW := bS HBW hb; clear hb K_; replace a3 := z4 a0; replace a4 := z4 a1; replace a9 := zf4 a2))
 refine bodyPost_ret (results_ctt3 rfl _ _ b6 61 #[.bool false, .bool false, .slice none 0 0, .complex .f64 0 0] (0, 0) _ rfl (bp a2) Try.underlying61 rfl (by kernel_rfl)) rfl ?_
 exact ⟨rfl, below_set (below_set (below_set (below_set (HBW.out) (by have hZ := Z.out; omega)) (by have hZ := Z.out; omega)) (by have hZ := Z.out; omega)) (by have hZ := Z.out; omega)⟩
theorem number_Do.badl (op : Int) (xp : Bool) (xs : Bool) (Ax : Option Addr) (cx : Nat) (lx : List Int) (xa xb : Nat) (yp : Bool) (ys : Bool) (Ay : Option Addr) (cy : Nat) (ly : List Int) (ya yb : Nat) (ho : op < 0) (w : World) :
  Calls Try.prog 52 #[.int .i64 op, .agg #[.bool xp, .bool xs, .slice Ax lx.length cx, .complex .f64 xa xb], .agg #[.bool yp, .bool ys, .slice Ay ly.length cy, .complex .f64 ya yb]] w fun e w' => e = .returned (.tuple #[.agg #[.bool false, .bool false, .slice none 0 0, .complex .f64 0 0], .bool false, .int .i64 1]) ∧ Below w.heap.size w w' := by
 have hu24 := Try.underlying24
 have hu25 := Try.underlying25
 have hu61 := Try.underlying61
 have HBW := Aside0.mk (Below.refl w.heap.size w)
 have Z := Aside0.mk (show w.heap.size ≤ w.heap.size from Nat.le_refl _)
 go_enter Try.func52, Try.ntmps52
 go_wp2_with (first
  | ((with_reducible refine gd 4 rfl ?_); refine bY 4 rfl #[.bool xp, .bool xs, .slice Ax lx.length cx, .complex .f64 xa xb] 61 ?_; intro b4 hg wa1 hbox hb K_; replace Z := zN Z K_ hg hbox; replace HBW := bS HBW hb; have a0 := Aside0.mk hbox; clear hb hbox hg K_; have a7 := z4 a0)
  | ((with_reducible refine gd 5 rfl ?_); refine bY 5 rfl #[.bool yp, .bool ys, .slice Ay ly.length cy, .complex .f64 ya yb] 61 ?_; intro b5 hg wa2 hbox hb K_; replace a0 := mvB a0 K_; replace Z := zN Z K_ hg hbox; replace HBW := bS HBW hb; have a1 := Aside0.mk hbox; clear hb hbox hg K_; replace a7 := z4 a0; have zb5 := z4 a1)
  | ((with_reducible refine gd 6 rfl ?_); refine bY 6 rfl #[.bool false, .bool false, .slice none 0 0, .complex .f64 0 0] 61 ?_; intro b6 hg wa3 hbox hb K_; replace a0 := mvB a0 K_; replace a1 := mvB a1 K_; replace Z := zN Z K_ hg hbox; replace HBW := bS HBW hb; have a2 := Aside0.mk hbox; clear hb hbox hg K_; replace a7 := z4 a0; replace zb5 := z4 a1; have zb6 := zf4 a2; obtain ⟨a3, a5⟩ := neZ Z b6 b4; obtain ⟨a4, a6⟩ := neZ Z b6 b5))
 refine bodyPost_ret (results_ctt3 rfl _ _ b6 61 #[.bool false, .bool false, .slice none 0 0, .complex .f64 0 0] (0, 0) _ rfl (bp a2) Try.underlying61 rfl (by kernel_rfl)) rfl ?_
 exact ⟨rfl, below_set (below_set (below_set (below_set (HBW.out) (by have hZ := Z.out; omega)) (by have hZ := Z.out; omega)) (by have hZ := Z.out; omega)) (by have hZ := Z.out; omega)⟩
theorem number_Do.badg (op : Int) (xp : Bool) (xs : Bool) (Ax : Option Addr) (cx : Nat) (lx : List Int) (xa xb : Nat) (yp : Bool) (ys : Bool) (Ay : Option Addr) (cy : Nat) (ly : List Int) (ya yb : Nat) (ho : op > 7) (w : World) :
  Calls Try.prog 52 #[.int .i64 op, .agg #[.bool xp, .bool xs, .slice Ax lx.length cx, .complex .f64 xa xb], .agg #[.bool yp, .bool ys, .slice Ay ly.length cy, .complex .f64 ya yb]] w fun e w' => e = .returned (.tuple #[.agg #[.bool false, .bool false, .slice none 0 0, .complex .f64 0 0], .bool false, .int .i64 1]) ∧ Below w.heap.size w w' := by
 have hu24 := Try.underlying24
 have hu25 := Try.underlying25
 have hu61 := Try.underlying61
 have h1 : ¬ op < 0 := by omega
 have h2 : 7 < op := by omega
 have HBW := Aside0.mk (Below.refl w.heap.size w)
 have Z := Aside0.mk (show w.heap.size ≤ w.heap.size from Nat.le_refl _)
 go_enter Try.func52, Try.ntmps52
 go_wp2_with (first
  | ((with_reducible refine gd 4 rfl ?_); refine bY 4 rfl #[.bool xp, .bool xs, .slice Ax lx.length cx, .complex .f64 xa xb] 61 ?_; intro b4 hg wa1 hbox hb K_; replace Z := zN Z K_ hg hbox; replace HBW := bS HBW hb; have a0 := Aside0.mk hbox; clear hb hbox hg K_; have a7 := z4 a0)
  | ((with_reducible refine gd 5 rfl ?_); refine bY 5 rfl #[.bool yp, .bool ys, .slice Ay ly.length cy, .complex .f64 ya yb] 61 ?_; intro b5 hg wa2 hbox hb K_; replace a0 := mvB a0 K_; replace Z := zN Z K_ hg hbox; replace HBW := bS HBW hb; have a1 := Aside0.mk hbox; clear hb hbox hg K_; replace a7 := z4 a0; have zb5 := z4 a1)
  | ((with_reducible refine gd 6 rfl ?_); refine bY 6 rfl #[.bool false, .bool false, .slice none 0 0, .complex .f64 0 0] 61 ?_; intro b6 hg wa3 hbox hb K_; replace a0 := mvB a0 K_; replace a1 := mvB a1 K_; replace Z := zN Z K_ hg hbox; replace HBW := bS HBW hb; have a2 := Aside0.mk hbox; clear hb hbox hg K_; replace a7 := z4 a0; replace zb5 := z4 a1; have zb6 := zf4 a2; obtain ⟨a3, a5⟩ := neZ Z b6 b4; obtain ⟨a4, a6⟩ := neZ Z b6 b5))
 refine bodyPost_ret (results_ctt3 rfl _ _ b6 61 #[.bool false, .bool false, .slice none 0 0, .complex .f64 0 0] (0, 0) _ rfl (bp a2) Try.underlying61 rfl (by kernel_rfl)) rfl ?_
 exact ⟨rfl, below_set (below_set (below_set (below_set (HBW.out) (by have hZ := Z.out; omega)) (by have hZ := Z.out; omega)) (by have hZ := Z.out; omega)) (by have hZ := Z.out; omega)⟩
/-- What an operation of whole numbers gives, told of the call. -/
def GivesA (f : Nat) (w : World) (x y : Value) (rn : Bool) (rl : List Int) (er : Int) : Prop := ∀ W : World, Below w.heap.size w W → Calls Try.prog f #[x, y] W fun e w' => ∃ v_ : Value, e = .returned (.tuple #[.agg #[.bool rn, v_], .int .i64 er]) ∧ Kd.R (Kd.int .u8) 5 w' W.heap.size (fun _ => True) v_ rl ∧ Below W.heap.size W w'
theorem number_Do.arith (op : Int) (f : Nat) (xs : Bool) (Ax : Option Addr) (cx : Nat) (lx : List Int) (xa xb : Nat) (ys : Bool) (Ay : Option Addr) (cy : Nat) (ly : List Int) (ya yb : Nat) (rn : Bool) (rl : List Int) (er : Int) (hop : (op = 0 ∧ f = 29) ∨ (op = 1 ∧ f = 31) ∨ (op = 2 ∧ f = 26) ∨ (op = 4 ∧ f = 20) ∨ (op = 5 ∧ f = 22)) (w : World) (hgx : Gives58 w (.agg #[.bool false, .bool xs, .slice Ax lx.length cx, .complex .f64 xa xb]) true) (hgy : Gives58 w (.agg #[.bool false, .bool ys, .slice Ay ly.length cy, .complex .f64 ya yb]) true) (h : GivesA f w (.agg #[.bool xs, .slice Ax lx.length cx]) (.agg #[.bool ys, .slice Ay ly.length cy]) rn rl er) :
  Calls Try.prog 52 #[.int .i64 op, .agg #[.bool false, .bool xs, .slice Ax lx.length cx, .complex .f64 xa xb], .agg #[.bool false, .bool ys, .slice Ay ly.length cy, .complex .f64 ya yb]] w fun e w' => ∃ v_ : Value, e = .returned (.tuple #[.agg #[.bool false, .bool rn, v_, .complex .f64 0 0], .bool false, .int .i64 er]) ∧ Kd.R (Kd.int .u8) 5 w' w.heap.size (fun _ => True) v_ rl ∧ Below w.heap.size w w' := by
 have hu24 := Try.underlying24
 have hu25 := Try.underlying25
 have hu61 := Try.underlying61
 have n_ := Aside0.mk hgx
 clear hgx
 have hgx := n_
 clear n_
 have n_ := Aside0.mk hgy
 clear hgy
 have hgy := n_
 clear n_
 have n_ := Aside0.mk h
 clear h
 have h := n_
 clear n_
 have HBW := Aside0.mk (Below.refl w.heap.size w)
 have Z := Aside0.mk (show w.heap.size ≤ w.heap.size from Nat.le_refl _)
 rcases hop with ⟨rfl, rfl⟩ | ⟨rfl, rfl⟩ | ⟨rfl, rfl⟩ | ⟨rfl, rfl⟩ | ⟨rfl, rfl⟩
 all_goals (
  go_enter Try.func52, Try.ntmps52
  go_wp2_with (first
   | ((with_reducible refine gd 4 rfl ?_); refine bY 4 rfl #[.bool false, .bool xs, .slice Ax lx.length cx, .complex .f64 xa xb] 61 ?_; intro b4 hg wa1 hbox hb K_; replace Z := zN Z K_ hg hbox; replace HBW := bS HBW hb; have a0 := Aside0.mk hbox; clear hb hbox hg K_; have a4 := z4 a0)
   | ((with_reducible refine gd 5 rfl ?_); refine bY 5 rfl #[.bool false, .bool ys, .slice Ay ly.length cy, .complex .f64 ya yb] 61 ?_; intro b5 hg wa2 hbox hb K_; replace a0 := mvB a0 K_; replace Z := zN Z K_ hg hbox; replace HBW := bS HBW hb; have a1 := Aside0.mk hbox; clear hb hbox hg K_; replace a4 := z4 a0; have a5 := z4 a1)
   | ((with_reducible refine gd 6 rfl ?_); refine bY 6 rfl #[.bool false, .bool false, .slice none 0 0, .complex .f64 0 0] 61 ?_; intro b6 hg wa3 hbox hb K_; replace a0 := mvB a0 K_; replace a1 := mvB a1 K_; replace Z := zN Z K_ hg hbox; replace HBW := bS HBW hb; have a2 := Aside0.mk hbox; clear hb hbox hg K_; replace a4 := z4 a0; replace a5 := z4 a1; have a7 := zf4 a2; obtain ⟨aa, ac⟩ := neZ Z b6 b4; obtain ⟨ab, af⟩ := neZ Z b6 b5)
   | ((with_reducible refine gd 21 rfl ?_); refine gU ?_; refine gc (some 21) Try.func58 #[.agg #[.bool false, .bool xs, .slice Ax lx.length cx, .complex .f64 xa xb]] (hgx.out _ HBW.out) ?_; rintro e wa4 ⟨rfl, hb⟩; refine ⟨_, rfl, ?_⟩; have K_ := kb hb; replace a0 := mvB a0 K_; replace a1 := mvB a1 K_; replace a2 := mvB a2 K_; replace Z := zA Z (K_.1); replace HBW := bS HBW hb; clear hb K_; replace a4 := z4 a0; replace a5 := z4 a1; replace a7 := zf4 a2)
   | ((with_reducible refine gd 26 rfl ?_); refine gU ?_; refine gc (some 26) Try.func58 #[.agg #[.bool false, .bool ys, .slice Ay ly.length cy, .complex .f64 ya yb]] (hgy.out _ HBW.out) ?_; rintro e wa5 ⟨rfl, hb⟩; refine ⟨_, rfl, ?_⟩; have K_ := kb hb; replace a0 := mvB a0 K_; replace a1 := mvB a1 K_; replace a2 := mvB a2 K_; replace Z := zA Z (K_.1); replace HBW := bS HBW hb; clear hb K_; replace a4 := z4 a0; replace a5 := z4 a1; replace a7 := zf4 a2)
   | ((with_reducible refine gd 9 rfl ?_); refine bY 9 rfl #[.bool false, .slice none 0 0] 25 ?_; intro b9 hg wa6 hbox hb K_; replace a0 := mvB a0 K_; replace a1 := mvB a1 K_; replace a2 := mvB a2 K_; replace Z := zN Z K_ hg hbox; replace HBW := bS HBW hb; have a3 := Aside0.mk hbox; clear hb hbox hg K_; replace a4 := z4 a0; replace a5 := z4 a1; replace a7 := zf4 a2; obtain ⟨aj, ad⟩ := neZ Z b6 b9; have a8 := zf2 a3; obtain ⟨ai, ah⟩ := neZ Z b9 b4; obtain ⟨ae, ag⟩ := neZ Z b9 b5)
   | ((with_reducible refine gd 76 rfl ?_); refine gU ?_; refine gc (some 76) Try.func29 #[.agg #[.bool xs, .slice Ax lx.length cx], .agg #[.bool ys, .slice Ay ly.length cy]] (h.out _ HBW.out) ?_; rintro e a9 ⟨v_, rfl, hR, hb⟩; refine ⟨_, rfl, ?_⟩; have K_ := kb hb; replace a0 := mvB a0 K_; replace a1 := mvB a1 K_; replace a2 := mvB a2 K_; replace a3 := mvB a3 K_; replace Z := zA Z (K_.1); obtain ⟨Ar, cr, a6, Rr⟩ := rN hR HBW; subst a6; clear hR; replace HBW := bS HBW hb; clear hb K_; replace a4 := z4 a0; replace a5 := z4 a1; replace a7 := zf4 a2; replace a8 := zf2 a3)
   | ((with_reducible refine gd 86 rfl ?_); refine gU ?_; refine gc (some 86) Try.func31 #[.agg #[.bool xs, .slice Ax lx.length cx], .agg #[.bool ys, .slice Ay ly.length cy]] (h.out _ HBW.out) ?_; rintro e a9 ⟨v_, rfl, hR, hb⟩; refine ⟨_, rfl, ?_⟩; have K_ := kb hb; replace a0 := mvB a0 K_; replace a1 := mvB a1 K_; replace a2 := mvB a2 K_; replace a3 := mvB a3 K_; replace Z := zA Z (K_.1); obtain ⟨Ar, cr, a6, Rr⟩ := rN hR HBW; subst a6; clear hR; replace HBW := bS HBW hb; clear hb K_; replace a4 := z4 a0; replace a5 := z4 a1; replace a7 := zf4 a2; replace a8 := zf2 a3)
   | ((with_reducible refine gd 96 rfl ?_); refine gU ?_; refine gc (some 96) Try.func26 #[.agg #[.bool xs, .slice Ax lx.length cx], .agg #[.bool ys, .slice Ay ly.length cy]] (h.out _ HBW.out) ?_; rintro e a9 ⟨v_, rfl, hR, hb⟩; refine ⟨_, rfl, ?_⟩; have K_ := kb hb; replace a0 := mvB a0 K_; replace a1 := mvB a1 K_; replace a2 := mvB a2 K_; replace a3 := mvB a3 K_; replace Z := zA Z (K_.1); obtain ⟨Ar, cr, a6, Rr⟩ := rN hR HBW; subst a6; clear hR; replace HBW := bS HBW hb; clear hb K_; replace a4 := z4 a0; replace a5 := z4 a1; replace a7 := zf4 a2; replace a8 := zf2 a3)
   | ((with_reducible refine gd 106 rfl ?_); refine gU ?_; refine gc (some 106) Try.func20 #[.agg #[.bool xs, .slice Ax lx.length cx], .agg #[.bool ys, .slice Ay ly.length cy]] (h.out _ HBW.out) ?_; rintro e a9 ⟨v_, rfl, hR, hb⟩; refine ⟨_, rfl, ?_⟩; have K_ := kb hb; replace a0 := mvB a0 K_; replace a1 := mvB a1 K_; replace a2 := mvB a2 K_; replace a3 := mvB a3 K_; replace Z := zA Z (K_.1); obtain ⟨Ar, cr, a6, Rr⟩ := rN hR HBW; subst a6; clear hR; replace HBW := bS HBW hb; clear hb K_; replace a4 := z4 a0; replace a5 := z4 a1; replace a7 := zf4 a2; replace a8 := zf2 a3)
   | ((with_reducible refine gd 116 rfl ?_); refine gU ?_; refine gc (some 116) Try.func22 #[.agg #[.bool xs, .slice Ax lx.length cx], .agg #[.bool ys, .slice Ay ly.length cy]] (h.out _ HBW.out) ?_; rintro e a9 ⟨v_, rfl, hR, hb⟩; refine ⟨_, rfl, ?_⟩; have K_ := kb hb; replace a0 := mvB a0 K_; replace a1 := mvB a1 K_; replace a2 := mvB a2 K_; replace a3 := mvB a3 K_; replace Z := zA Z (K_.1); obtain ⟨Ar, cr, a6, Rr⟩ := rN hR HBW; subst a6; clear hR; replace HBW := bS HBW hb; clear hb K_; replace a4 := z4 a0; replace a5 := z4 a1; replace a7 := zf4 a2; replace a8 := zf2 a3))
  have hne : b6 ≠ b9 := by have hZ := Z.out; omega
  refine bodyPost_ret (results_ctt3 rfl _ _ b6 61 #[.bool false, .bool rn, .slice Ar rl.length cr, .complex .f64 0 0] (0, 0) _ rfl (by refine blk_put (cs := #[.bool false, .bool rn, .slice Ar rl.length cr, .complex .f64 0 0]) ?_ 3 _ rfl; refine blk_put (cs := #[.bool false, .bool rn, .slice none 0 0, .complex .f64 0 0]) ?_ 2 _ rfl; refine blk_put (cs := #[.bool false, .bool false, .slice none 0 0, .complex .f64 0 0]) ?_ 1 _ rfl; refine blk_put (cs := #[.bool false, .bool false, .slice none 0 0, .complex .f64 0 0]) ?_ 0 _ rfl; exact ((Below.heap_setCell _ _ _ _ hne).trans ((Below.heap_setCell _ _ _ _ hne).trans a2.out))) Try.underlying61 rfl (by kernel_rfl)) rfl ?_
  exact ⟨_, rfl, Kd.R_mono (Kd.R_kept Rr.out (Kept.setCell (S := fun k => k = b9 ∨ k = b6) (Kept.setCell (S := fun k => k = b9 ∨ k = b6) (Kept.setCell (S := fun k => k = b9 ∨ k = b6) (Kept.setCell (S := fun k => k = b9 ∨ k = b6) (Kept.setCell (S := fun k => k = b9 ∨ k = b6) (Kept.setCell (S := fun k => k = b9 ∨ k = b6) (Kept.refl _ _) (p := ⟨b9, 0, none⟩) (.inl (.inl rfl)) _) (p := ⟨b9, 1, none⟩) (.inl (.inl rfl)) _) (p := ⟨b6, 0, none⟩) (.inl (.inr rfl)) _) (p := ⟨b6, 1, none⟩) (.inl (.inr rfl)) _) (p := ⟨b6, 2, none⟩) (.inl (.inr rfl)) _) (p := ⟨b6, 3, none⟩) (.inl (.inr rfl)) _) (fun k (hk : wa6.heap.size ≤ k ∧ k < a9.heap.size) h => by have hZ := Z.out; omega)) (fun _ _ => trivial), below_set (below_set (below_set (below_set (below_set (below_set (HBW.out) (by have hZ := Z.out; omega)) (by have hZ := Z.out; omega)) (by have hZ := Z.out; omega)) (by have hZ := Z.out; omega)) (by have hZ := Z.out; omega)) (by have hZ := Z.out; omega)⟩)
theorem number_Do.cmp (op : Int) (xs : Bool) (Ax : Option Addr) (cx : Nat) (lx : List Int) (xa xb : Nat) (ys : Bool) (Ay : Option Addr) (cy : Nat) (ly : List Int) (ya yb : Nat) (k : Nat) (c : Int) (r : Bool) (hop : (op = 6 ∧ c = 0 ∧ r = true) ∨ (op = 6 ∧ c < 0 ∧ r = false) ∨ (op = 6 ∧ 0 < c ∧ r = false) ∨ (op = 7 ∧ c = 0 ∧ r = false) ∨ (op = 7 ∧ c < 0 ∧ r = true) ∨ (op = 7 ∧ 0 < c ∧ r = false)) (w : World) (hgx : Gives58 w (.agg #[.bool false, .bool xs, .slice Ax lx.length cx, .complex .f64 xa xb]) true) (hgy : Gives58 w (.agg #[.bool false, .bool ys, .slice Ay ly.length cy, .complex .f64 ya yb]) true) (hrx : Kd.C (Kd.int .u8) w Ax lx.length lx) (hcx : lx.length ≤ cx) (hry : Kd.C (Kd.int .u8) w Ay ly.length ly) (hcy : ly.length ≤ cy) (h : whole_Cmp.f k xs lx ys ly = some c) :
  Calls Try.prog 52 #[.int .i64 op, .agg #[.bool false, .bool xs, .slice Ax lx.length cx, .complex .f64 xa xb], .agg #[.bool false, .bool ys, .slice Ay ly.length cy, .complex .f64 ya yb]] w fun e w' => e = .returned (.tuple #[.agg #[.bool false, .bool false, .slice none 0 0, .complex .f64 0 0], .bool r, .int .i64 0]) ∧ Below w.heap.size w w' := by
 have hu24 := Try.underlying24
 have hu25 := Try.underlying25
 have hu61 := Try.underlying61
 have n_ := Aside0.mk hgx
 clear hgx
 have hgx := n_
 clear n_
 have n_ := Aside0.mk hgy
 clear hgy
 have hgy := n_
 clear n_
 have n_ := Aside0.mk hrx
 clear hrx
 have hrx := n_
 clear n_
 have n_ := Aside0.mk hcx
 clear hcx
 have hcx := n_
 clear n_
 have n_ := Aside0.mk hry
 clear hry
 have hry := n_
 clear n_
 have n_ := Aside0.mk hcy
 clear hcy
 have hcy := n_
 clear n_
 have n_ := Aside0.mk h
 clear h
 have h := n_
 clear n_
 have HBW := Aside0.mk (Below.refl w.heap.size w)
 have Z := Aside0.mk (show w.heap.size ≤ w.heap.size from Nat.le_refl _)
 rcases hop with ⟨rfl, hc, rfl⟩ | ⟨rfl, hc, rfl⟩ | ⟨rfl, hc, rfl⟩ | ⟨rfl, hc, rfl⟩ | ⟨rfl, hc, rfl⟩ | ⟨rfl, hc, rfl⟩
 all_goals (
  try subst hc
  try have hc1 : ¬ c = 0 := by omega
  try have hc2 : ¬ c < 0 := by omega
  go_enter Try.func52, Try.ntmps52
  go_wp2_with (first
   | ((with_reducible refine gd 4 rfl ?_); refine bY 4 rfl #[.bool false, .bool xs, .slice Ax lx.length cx, .complex .f64 xa xb] 61 ?_; intro b4 hg wa1 hbox hb K_; replace Z := zN Z K_ hg hbox; replace HBW := bS HBW hb; have a0 := Aside0.mk hbox; clear hb hbox hg K_; have a4 := z4 a0)
   | ((with_reducible refine gd 5 rfl ?_); refine bY 5 rfl #[.bool false, .bool ys, .slice Ay ly.length cy, .complex .f64 ya yb] 61 ?_; intro b5 hg wa2 hbox hb K_; replace a0 := mvB a0 K_; replace Z := zN Z K_ hg hbox; replace HBW := bS HBW hb; have a1 := Aside0.mk hbox; clear hb hbox hg K_; replace a4 := z4 a0; have a5 := z4 a1)
   | ((with_reducible refine gd 6 rfl ?_); refine bY 6 rfl #[.bool false, .bool false, .slice none 0 0, .complex .f64 0 0] 61 ?_; intro b6 hg wa3 hbox hb K_; replace a0 := mvB a0 K_; replace a1 := mvB a1 K_; replace Z := zN Z K_ hg hbox; replace HBW := bS HBW hb; have a2 := Aside0.mk hbox; clear hb hbox hg K_; replace a4 := z4 a0; replace a5 := z4 a1; have a6 := zf4 a2; obtain ⟨a7, a9⟩ := neZ Z b6 b4; obtain ⟨a8, ac⟩ := neZ Z b6 b5)
   | ((with_reducible refine gd 21 rfl ?_); refine gU ?_; refine gc (some 21) Try.func58 #[.agg #[.bool false, .bool xs, .slice Ax lx.length cx, .complex .f64 xa xb]] (hgx.out _ HBW.out) ?_; rintro e wa4 ⟨rfl, hb⟩; refine ⟨_, rfl, ?_⟩; have K_ := kb hb; replace a0 := mvB a0 K_; replace a1 := mvB a1 K_; replace a2 := mvB a2 K_; replace Z := zA Z (K_.1); replace HBW := bS HBW hb; clear hb K_; replace a4 := z4 a0; replace a5 := z4 a1; replace a6 := zf4 a2)
   | ((with_reducible refine gd 26 rfl ?_); refine gU ?_; refine gc (some 26) Try.func58 #[.agg #[.bool false, .bool ys, .slice Ay ly.length cy, .complex .f64 ya yb]] (hgy.out _ HBW.out) ?_; rintro e wa5 ⟨rfl, hb⟩; refine ⟨_, rfl, ?_⟩; have K_ := kb hb; replace a0 := mvB a0 K_; replace a1 := mvB a1 K_; replace a2 := mvB a2 K_; replace Z := zA Z (K_.1); replace HBW := bS HBW hb; clear hb K_; replace a4 := z4 a0; replace a5 := z4 a1; replace a6 := zf4 a2)
   | ((with_reducible refine gd 9 rfl ?_); refine bY 9 rfl #[.bool false, .slice none 0 0] 25 ?_; intro b9 hg wa6 hbox hb K_; replace a0 := mvB a0 K_; replace a1 := mvB a1 K_; replace a2 := mvB a2 K_; replace Z := zN Z K_ hg hbox; replace HBW := bS HBW hb; have a3 := Aside0.mk hbox; clear hb hbox hg K_; replace a4 := z4 a0; replace a5 := z4 a1; replace a6 := zf4 a2; obtain ⟨ag, aa⟩ := neZ Z b6 b9; have zb9 := zf2 a3; obtain ⟨af, ae⟩ := neZ Z b9 b4; obtain ⟨ab, ad⟩ := neZ Z b9 b5)
   | ((with_reducible refine gd 53 rfl ?_); refine gU ?_; refine gc (some 53) Try.func41 #[.agg #[.bool xs, .slice Ax lx.length cx], .agg #[.bool ys, .slice Ay ly.length cy]] (whole_Cmp.calls k xs _ _ lx ys _ _ ly _ _ (Kd.C_below hrx.out HBW.out) hcx.out (Kd.C_below hry.out HBW.out) hcy.out h.out) ?_; rintro e wa7 ⟨rfl, hb⟩; refine ⟨_, rfl, ?_⟩; have K_ := kb hb; replace a0 := mvB a0 K_; replace a1 := mvB a1 K_; replace a2 := mvB a2 K_; replace a3 := mvB a3 K_; replace Z := zA Z (K_.1); replace HBW := bS HBW hb; clear hb K_; replace a4 := z4 a0; replace a5 := z4 a1; replace a6 := zf4 a2; replace zb9 := zf2 a3))
  refine bodyPost_ret (results_ctt3 rfl _ _ b6 61 #[.bool false, .bool false, .slice none 0 0, .complex .f64 0 0] (0, 0) _ rfl (bp a2) Try.underlying61 rfl (by kernel_rfl)) rfl ?_
  exact ⟨rfl, below_set (below_set (below_set (below_set (HBW.out) (by have hZ := Z.out; omega)) (by have hZ := Z.out; omega)) (by have hZ := Z.out; omega)) (by have hZ := Z.out; omega)⟩)
end Go.Proofs.Ytfjbhccapgnkiaa.P
