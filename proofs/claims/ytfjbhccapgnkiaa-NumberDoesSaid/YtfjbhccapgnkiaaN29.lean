import Derived.Test.YtfjbhccapgnkiaaN11
import Derived.Test.YtfjbhccapgnkiaaN3
import Derived.Test.YtfjbhccapgnkiaaN6
import Derived.Test.YtfjbhccapgnkiaaC6
namespace Go.Proofs.Ytfjbhccapgnkiaa.P
open Go.RowKit Go.Proofs.YtfjbhccapgnkiaaW.PrintWords Go.Proofs.YtfjbhccapgnkiaaW.PrintLast Go.Proofs.YtfjbhccapgnkiaaW.PrintMore
attribute [local go_sem] max2_int min2_int max_two min_two max_three min_three max_four min_four
set_option linter.unusedVariables false
set_option maxHeartbeats 16000000
set_option maxRecDepth 100000
set_option linter.unusedSimpArgs false
attribute [local go_sem] stC stF
/-! ### lapidaryref06.Right, of -/
theorem ref_Right.pt (A : Option Addr) (c : Nat) (l : List Int) (a b : Nat) (w : World) (hr : Kd.C (Kd.int .u8) w A l.length l) (hc : l.length ≤ c) :
  Calls Try.prog 96 #[.agg #[.bool true, .bool true, .slice A l.length c, .float .f64 a, .float .f64 b]] w fun e w' => e = .returned (.bool false) ∧ Below w.heap.size w w' := by
 have hu24 := Try.underlying24
 have hu25 := Try.underlying25
 have hu61 := Try.underlying61
 have hu58 := Try.underlying58
 have n_ := Aside0.mk hr
 clear hr
 have hr := n_
 clear n_
 have n_ := Aside0.mk hc
 clear hc
 have hc := n_
 clear n_
 have HBW := Aside0.mk (Below.refl w.heap.size w)
 have Z := Aside0.mk (show w.heap.size ≤ w.heap.size from Nat.le_refl _)
 go_enter Try.func96, Try.ntmps96
 go_wp2_with (first
  | ((with_reducible refine gd 1 rfl ?_); refine bY 1 rfl #[.bool true, .bool true, .slice A l.length c, .float .f64 a, .float .f64 b] 58 ?_; intro b1 hg wa1 hbox hb K_; replace Z := zN Z K_ hg hbox; replace HBW := bS HBW hb; have a0 := Aside0.mk hbox; clear hb hbox hg K_; have zb1 := z5 a0))
 go_ret
 exact ⟨rfl, HBW.out⟩
theorem ref_Right.pf0 (A : Option Addr) (c : Nat) (l : List Int) (a b : Nat) (h0 : (l.length : Int) = 0) (w : World) (hr : Kd.C (Kd.int .u8) w A l.length l) (hc : l.length ≤ c) :
  Calls Try.prog 96 #[.agg #[.bool true, .bool false, .slice A l.length c, .float .f64 a, .float .f64 b]] w fun e w' => e = .returned (.bool true) ∧ Below w.heap.size w w' := by
 have hu24 := Try.underlying24
 have hu25 := Try.underlying25
 have hu61 := Try.underlying61
 have hu58 := Try.underlying58
 have n_ := Aside0.mk hr
 clear hr
 have hr := n_
 clear n_
 have n_ := Aside0.mk hc
 clear hc
 have hc := n_
 clear n_
 have HBW := Aside0.mk (Below.refl w.heap.size w)
 have Z := Aside0.mk (show w.heap.size ≤ w.heap.size from Nat.le_refl _)
 go_enter Try.func96, Try.ntmps96
 go_wp2_with (first
  | ((with_reducible refine gd 1 rfl ?_); refine bY 1 rfl #[.bool true, .bool false, .slice A l.length c, .float .f64 a, .float .f64 b] 58 ?_; intro b1 hg wa1 hbox hb K_; replace Z := zN Z K_ hg hbox; replace HBW := bS HBW hb; have a0 := Aside0.mk hbox; clear hb hbox hg K_; have zb1 := z5 a0))
 go_ret
 exact ⟨rfl, HBW.out⟩
theorem ref_Right.pf1 (A : Option Addr) (c : Nat) (l : List Int) (a b : Nat) (h0 : ¬ (l.length : Int) = 0) (w : World) (hr : Kd.C (Kd.int .u8) w A l.length l) (hc : l.length ≤ c) :
  Calls Try.prog 96 #[.agg #[.bool true, .bool false, .slice A l.length c, .float .f64 a, .float .f64 b]] w fun e w' => e = .returned (.bool false) ∧ Below w.heap.size w w' := by
 have hu24 := Try.underlying24
 have hu25 := Try.underlying25
 have hu61 := Try.underlying61
 have hu58 := Try.underlying58
 have n_ := Aside0.mk hr
 clear hr
 have hr := n_
 clear n_
 have n_ := Aside0.mk hc
 clear hc
 have hc := n_
 clear n_
 have HBW := Aside0.mk (Below.refl w.heap.size w)
 have Z := Aside0.mk (show w.heap.size ≤ w.heap.size from Nat.le_refl _)
 go_enter Try.func96, Try.ntmps96
 go_wp2_with (first
  | ((with_reducible refine gd 1 rfl ?_); refine bY 1 rfl #[.bool true, .bool false, .slice A l.length c, .float .f64 a, .float .f64 b] 58 ?_; intro b1 hg wa1 hbox hb K_; replace Z := zN Z K_ hg hbox; replace HBW := bS HBW hb; have a0 := Aside0.mk hbox; clear hb hbox hg K_; have zb1 := z5 a0))
 go_ret
 exact ⟨congrArg (fun q => Ending.returned (Value.bool q)) (beq_eq_false_iff_ne.2 h0), HBW.out⟩
theorem ref_Right.wn (A : Option Addr) (c : Nat) (l : List Int) (a b : Nat) (s : Bool) (w : World) (hr : Kd.C (Kd.int .u8) w A l.length l) (hc : l.length ≤ c) (h : lapidaryref02_Right.f s l = some false) :
  Calls Try.prog 96 #[.agg #[.bool false, .bool s, .slice A l.length c, .float .f64 a, .float .f64 b]] w fun e w' => e = .returned (.bool false) ∧ Below w.heap.size w w' := by
 have hu24 := Try.underlying24
 have hu25 := Try.underlying25
 have hu61 := Try.underlying61
 have hu58 := Try.underlying58
 have n_ := Aside0.mk hr
 clear hr
 have hr := n_
 clear n_
 have n_ := Aside0.mk hc
 clear hc
 have hc := n_
 clear n_
 have n_ := Aside0.mk h
 clear h
 have h := n_
 clear n_
 have HBW := Aside0.mk (Below.refl w.heap.size w)
 have Z := Aside0.mk (show w.heap.size ≤ w.heap.size from Nat.le_refl _)
 go_enter Try.func96, Try.ntmps96
 go_wp2_with (first
  | ((with_reducible refine gd 1 rfl ?_); refine bY 1 rfl #[.bool false, .bool s, .slice A l.length c, .float .f64 a, .float .f64 b] 58 ?_; intro b1 hg wa1 hbox hb K_; replace Z := zN Z K_ hg hbox; replace HBW := bS HBW hb; have a0 := Aside0.mk hbox; clear hb hbox hg K_; have zb1 := z5 a0)
  | ((with_reducible refine gd 18 rfl ?_); refine gU ?_; refine gc (some 18) Try.func40 #[.agg #[.bool s, .slice A l.length c]] (lapidaryref02_Right.calls s _ _ l false _ (Kd.C_below hr.out HBW.out) hc.out h.out) ?_; rintro e wa2 ⟨rfl, hb⟩; refine ⟨_, rfl, ?_⟩; have K_ := kb hb; replace a0 := mvB a0 K_; replace Z := zA Z (K_.1); replace HBW := bS HBW hb; clear hb K_; replace zb1 := z5 a0))
 go_ret
 exact ⟨rfl, HBW.out⟩
theorem ref_Right.wy (A : Option Addr) (c : Nat) (l : List Int) (a b : Nat) (s : Bool) (w : World) (hr : Kd.C (Kd.int .u8) w A l.length l) (hc : l.length ≤ c) (h : lapidaryref02_Right.f s l = some true) :
  Calls Try.prog 96 #[.agg #[.bool false, .bool s, .slice A l.length c, .float .f64 a, .float .f64 b]] w fun e w' => e = .returned (.bool (bsame a 0 && bsame b 0)) ∧ Below w.heap.size w w' := by
 have hu24 := Try.underlying24
 have hu25 := Try.underlying25
 have hu61 := Try.underlying61
 have hu58 := Try.underlying58
 have n_ := Aside0.mk hr
 clear hr
 have hr := n_
 clear n_
 have n_ := Aside0.mk hc
 clear hc
 have hc := n_
 clear n_
 have n_ := Aside0.mk h
 clear h
 have h := n_
 clear n_
 have HBW := Aside0.mk (Below.refl w.heap.size w)
 have Z := Aside0.mk (show w.heap.size ≤ w.heap.size from Nat.le_refl _)
 go_enter Try.func96, Try.ntmps96
 go_wp2_with (first
  | ((with_reducible refine gd 1 rfl ?_); refine bY 1 rfl #[.bool false, .bool s, .slice A l.length c, .float .f64 a, .float .f64 b] 58 ?_; intro b1 hg wa1 hbox hb K_; replace Z := zN Z K_ hg hbox; replace HBW := bS HBW hb; have a0 := Aside0.mk hbox; clear hb hbox hg K_; have a1 := z5 a0)
  | ((with_reducible refine gd 18 rfl ?_); refine gU ?_; refine gc (some 18) Try.func40 #[.agg #[.bool s, .slice A l.length c]] (lapidaryref02_Right.calls s _ _ l true _ (Kd.C_below hr.out HBW.out) hc.out h.out) ?_; rintro e wa2 ⟨rfl, hb⟩; refine ⟨_, rfl, ?_⟩; have K_ := kb hb; replace a0 := mvB a0 K_; replace Z := zA Z (K_.1); replace HBW := bS HBW hb; clear hb K_; replace a1 := z5 a0)
  | ((with_reducible refine gd 22 rfl ?_); refine gU ?_; refine gc (some 22) Try.func98 #[.agg #[.bool false, .bool s, .slice A l.length c, .float .f64 a, .float .f64 b], .agg #[.bool false, .bool false, .slice none 0 0, .float .f64 0, .float .f64 0]] (ref_alike.calls _ _ _ _ _ a b _ _ _ _ _ 0 0 _) ?_; rintro e wa3 ⟨rfl, hb⟩; refine ⟨_, rfl, ?_⟩; have K_ := kb hb; replace a0 := mvB a0 K_; replace Z := zA Z (K_.1); replace HBW := bS HBW hb; clear hb K_; replace a1 := z5 a0))
 go_ret
 exact ⟨rfl, HBW.out⟩
theorem ref_of.calls (a b : Nat) (w : World) :
  Calls Try.prog 106 #[.float .f64 a, .float .f64 b] w fun e w' => e = .returned (.agg #[.bool true, .bool false, .slice none 0 0, .float .f64 a, .float .f64 b]) ∧ Below w.heap.size w w' := by
 have hu24 := Try.underlying24
 have hu25 := Try.underlying25
 have hu61 := Try.underlying61
 have hu58 := Try.underlying58
 have HBW := Aside0.mk (Below.refl w.heap.size w)
 have Z := Aside0.mk (show w.heap.size ≤ w.heap.size from Nat.le_refl _)
 go_enter Try.func106, Try.ntmps106
 go_wp2_with (first
  | ((with_reducible refine gd 4 rfl ?_); refine bY 4 rfl #[.bool false, .bool false, .slice none 0 0, .float .f64 0, .float .f64 0] 58 ?_; intro b4 hg wa1 hbox hb K_; replace Z := zN Z K_ hg hbox; replace HBW := bS HBW hb; have a0 := Aside0.mk hbox; clear hb hbox hg K_; have zb4 := zf5 a0))
 refine bodyPost_ret (results_cell_row rfl _ _ b4 58 #[.bool true, .bool false, .slice none 0 0, .float .f64 a, .float .f64 b] (0, 0) _ rfl (bp a0) Try.underlying58 rfl (by kernel_rfl)) rfl ?_
 exact ⟨rfl, below_set (below_set (below_set (below_set (below_set (HBW.out) (by have hZ := Z.out; omega)) (by have hZ := Z.out; omega)) (by have hZ := Z.out; omega)) (by have hZ := Z.out; omega)) (by have hZ := Z.out; omega)⟩
theorem ref_right {p s : Bool} {A : Option Addr} {c : Nat} {l : List Int} {a b : Nat} {rb : Bool} {w : World} (hr : Kd.C (Kd.int .u8) w A l.length l) (hc : l.length ≤ c) (h : lapidaryref02_Right.f s l = some rb) : Calls Try.prog 96 #[.agg #[.bool p, .bool s, .slice A l.length c, .float .f64 a, .float .f64 b]] w fun e w' => e = .returned (.bool (rightN p s l a b rb)) ∧ Below w.heap.size w w' := by
 have e0 : bitsN 0 = 0 := by decide +kernel
 cases p
 ·cases rb
  ·have hh := ref_Right.wn A c l a b s w hr hc h
   rw [show rightN false s l a b false = false from by unfold rightN; simp]
   exact hh
  ·have hh := ref_Right.wy A c l a b s w hr hc h
   rw [show rightN false s l a b true = (bsame a 0 && bsame b 0) from by unfold rightN bsame; simp [e0]]
   exact hh
 ·cases s
  ·by_cases h0 : (l.length : Int) = 0
   ·have hh := ref_Right.pf0 A c l a b h0 w hr hc
    rw [show rightN true false l a b rb = true from by have h9 : l.length = 0 := (by omega); unfold rightN; rw [if_pos rfl, h9]; rfl]
    exact hh
   ·have hh := ref_Right.pf1 A c l a b h0 w hr hc
    rw [show rightN true false l a b rb = false from by have h9 : l.length ≠ 0 := (by omega); unfold rightN; rw [if_pos rfl, decide_eq_false h9]; rfl]
    exact hh
  ·exact ref_Right.pt A c l a b w hr hc
end Go.Proofs.Ytfjbhccapgnkiaa.P
namespace Go.Proofs.Ytfjbhccapgnkiaa.P
open Go.RowKit Go.Proofs.YtfjbhccapgnkiaaW.PrintWords Go.Proofs.YtfjbhccapgnkiaaW.PrintLast Go.Proofs.YtfjbhccapgnkiaaW.PrintMore
attribute [local go_sem] max2_int min2_int max_two min_two max_three min_three max_four min_four
set_option linter.unusedVariables false
set_option maxHeartbeats 16000000
set_option maxRecDepth 100000
set_option linter.unusedSimpArgs false
attribute [local go_sem] stC stF
/-! ### lapidaryref06.float, wide, times, over -/
theorem ref_float.calls (xs : Bool) (Ax : Option Addr) (cx : Nat) (lx : List Int) (k : Nat) (n : Int) (ok : Bool) (fv : Nat) (er : Int) (w : World) (hrx : Kd.C (Kd.int .u8) w Ax lx.length lx) (hcx : lx.length ≤ cx) (h : lapidaryref02_Small.f k xs lx = some (n, ok)) (h1 : fv = if ok = true then FloatKind.f64.nearest n else 0) (h2 : er = if ok = true then 0 else 24) :
  Calls Try.prog 136 #[.agg #[.bool xs, .slice Ax lx.length cx]] w fun e w' => e = .returned (.tuple #[.float .f64 fv, .int .i64 er]) ∧ Below w.heap.size w w' := by
 have hu24 := Try.underlying24
 have hu25 := Try.underlying25
 have hu61 := Try.underlying61
 have n_ := Aside0.mk hrx
 clear hrx
 have hrx := n_
 clear n_
 have n_ := Aside0.mk hcx
 clear hcx
 have hcx := n_
 clear n_
 have n_ := Aside0.mk h
 clear h
 have h := n_
 clear n_
 have n_ := Aside0.mk h1
 clear h1
 have h1 := n_
 clear n_
 have n_ := Aside0.mk h2
 clear h2
 have h2 := n_
 clear n_
 have HBW := Aside0.mk (Below.refl w.heap.size w)
 have Z := Aside0.mk (show w.heap.size ≤ w.heap.size from Nat.le_refl _)
 obtain ⟨h1⟩ := h1
 obtain ⟨h2⟩ := h2
 cases ok
 all_goals (
  simp only [if_true, Bool.false_eq_true, if_false] at h1 h2
  subst h1 h2
  go_enter Try.func136, Try.ntmps136
  go_wp2_with (first
   | ((with_reducible refine gd 1 rfl ?_); refine bY 1 rfl #[.bool xs, .slice Ax lx.length cx] 24 ?_; intro b1 hg wa1 hbox hb K_; replace Z := zN Z K_ hg hbox; replace HBW := bS HBW hb; have a0 := Aside0.mk hbox; clear hb hbox hg K_; have zb1 := z2 a0)
   | ((with_reducible refine gd 8 rfl ?_); refine gU ?_; refine gc (some 8) Try.func34 #[.agg #[.bool xs, .slice Ax lx.length cx]] (lapidaryref02_Small.calls k xs _ _ lx n _ _ (Kd.C_below hrx.out HBW.out) hcx.out h.out) ?_; rintro e wa2 ⟨rfl, hb⟩; refine ⟨_, rfl, ?_⟩; have K_ := kb hb; replace a0 := mvB a0 K_; replace Z := zA Z (K_.1); replace HBW := bS HBW hb; clear hb K_; replace zb1 := z2 a0))
  go_ret2
  exact ⟨rfl, HBW.out⟩)
/-- What a number is as a complex one, told of the reference's call. -/
def Gives121 (w : World) (x : Value) (s : Bool) (A : Option Addr) (n c : Nat) (r i : Nat) (er : Int) : Prop := ∀ W : World, Below w.heap.size w W → Calls Try.prog 121 #[x] W fun e w' => e = .returned (.tuple #[.agg #[.bool true, .bool s, .slice A n c, .float .f64 r, .float .f64 i], .int .i64 er]) ∧ Below W.heap.size W w'
theorem Gives121.later {w v : World} {x : Value} {s : Bool} {A : Option Addr} {n c r i : Nat} {er : Int} (h : Gives121 w x s A n c r i er) (hb : Below w.heap.size w v) : Gives121 v x s A n c r i er := fun W hW => h W (below_step hb hW)
theorem ref_wide.pair (xs : Bool) (Ax : Option Addr) (nx cx : Nat) (xa xb : Nat) (w : World) :
  Calls Try.prog 121 #[.agg #[.bool true, .bool xs, .slice Ax nx cx, .float .f64 xa, .float .f64 xb]] w fun e w' => e = .returned (.tuple #[.agg #[.bool true, .bool xs, .slice Ax nx cx, .float .f64 xa, .float .f64 xb], .int .i64 0]) ∧ Below w.heap.size w w' := by
 have hu24 := Try.underlying24
 have hu25 := Try.underlying25
 have hu61 := Try.underlying61
 have hu58 := Try.underlying58
 have HBW := Aside0.mk (Below.refl w.heap.size w)
 have Z := Aside0.mk (show w.heap.size ≤ w.heap.size from Nat.le_refl _)
 go_enter Try.func121, Try.ntmps121
 go_wp2_with (first
  | ((with_reducible refine gd 1 rfl ?_); refine bY 1 rfl #[.bool true, .bool xs, .slice Ax nx cx, .float .f64 xa, .float .f64 xb] 58 ?_; intro b1 hg wa1 hbox hb K_; replace Z := zN Z K_ hg hbox; replace HBW := bS HBW hb; have a0 := Aside0.mk hbox; clear hb hbox hg K_; have zb1 := z5 a0)
  | ((with_reducible refine gd 2 rfl ?_); refine bY 2 rfl #[.bool false, .bool false, .slice none 0 0, .float .f64 0, .float .f64 0] 58 ?_; intro b2 hg wa2 hbox hb K_; replace a0 := mvB a0 K_; replace Z := zN Z K_ hg hbox; replace HBW := bS HBW hb; have a1 := Aside0.mk hbox; clear hb hbox hg K_; replace zb1 := z5 a0; have zb2 := zf5 a1; obtain ⟨a2, a3⟩ := neZ Z b2 b1))
 refine bodyPost_ret (results_ct3 rfl _ _ b2 58 #[.bool true, .bool xs, .slice Ax nx cx, .float .f64 xa, .float .f64 xb] (0, 0) _ rfl (bp a1) Try.underlying58 rfl (by kernel_rfl)) rfl ?_
 exact ⟨rfl, below_set (below_set (below_set (below_set (below_set (HBW.out) (leZ Z)) (leZ Z)) (leZ Z)) (leZ Z)) (leZ Z)⟩
theorem ref_wide.plain (xs : Bool) (Ax : Option Addr) (cx : Nat) (lx : List Int) (xa xb : Nat) (k : Nat) (n : Int) (ok : Bool) (fv : Nat) (er : Int) (w : World) (hrx : Kd.C (Kd.int .u8) w Ax lx.length lx) (hcx : lx.length ≤ cx) (h : lapidaryref02_Small.f k xs lx = some (n, ok)) (h1 : fv = if ok = true then FloatKind.f64.nearest n else 0) (h2 : er = if ok = true then 0 else 24) :
  Calls Try.prog 121 #[.agg #[.bool false, .bool xs, .slice Ax lx.length cx, .float .f64 xa, .float .f64 xb]] w fun e w' => e = .returned (.tuple #[.agg #[.bool true, .bool false, .slice none 0 0, .float .f64 fv, .float .f64 0], .int .i64 er]) ∧ Below w.heap.size w w' := by
 have hu24 := Try.underlying24
 have hu25 := Try.underlying25
 have hu61 := Try.underlying61
 have hu58 := Try.underlying58
 have n_ := Aside0.mk hrx
 clear hrx
 have hrx := n_
 clear n_
 have n_ := Aside0.mk hcx
 clear hcx
 have hcx := n_
 clear n_
 have n_ := Aside0.mk h
 clear h
 have h := n_
 clear n_
 have n_ := Aside0.mk h1
 clear h1
 have h1 := n_
 clear n_
 have n_ := Aside0.mk h2
 clear h2
 have h2 := n_
 clear n_
 have HBW := Aside0.mk (Below.refl w.heap.size w)
 have Z := Aside0.mk (show w.heap.size ≤ w.heap.size from Nat.le_refl _)
 go_enter Try.func121, Try.ntmps121
 go_wp2_with (first
  | ((with_reducible refine gd 1 rfl ?_); refine bY 1 rfl #[.bool false, .bool xs, .slice Ax lx.length cx, .float .f64 xa, .float .f64 xb] 58 ?_; intro b1 hg wa1 hbox hb K_; replace Z := zN Z K_ hg hbox; replace HBW := bS HBW hb; have a0 := Aside0.mk hbox; clear hb hbox hg K_; have a2 := z5 a0)
  | ((with_reducible refine gd 2 rfl ?_); refine bY 2 rfl #[.bool false, .bool false, .slice none 0 0, .float .f64 0, .float .f64 0] 58 ?_; intro b2 hg wa2 hbox hb K_; replace a0 := mvB a0 K_; replace Z := zN Z K_ hg hbox; replace HBW := bS HBW hb; have a1 := Aside0.mk hbox; clear hb hbox hg K_; replace a2 := z5 a0; have a5 := zf5 a1; obtain ⟨a3, a4⟩ := neZ Z b2 b1)
  | ((with_reducible refine gd 12 rfl ?_); refine gU ?_; refine gc (some 12) Try.func136 #[.agg #[.bool xs, .slice Ax lx.length cx]] (ref_float.calls xs _ _ lx k n ok fv er _ (Kd.C_below hrx.out HBW.out) hcx.out h.out h1.out h2.out) ?_; rintro e wa3 ⟨rfl, hb⟩; refine ⟨_, rfl, ?_⟩; have K_ := kb hb; replace a0 := mvB a0 K_; replace a1 := mvB a1 K_; replace Z := zA Z (K_.1); replace HBW := bS HBW hb; clear hb K_; replace a2 := z5 a0; replace a5 := zf5 a1)
  | ((with_reducible refine gd 16 rfl ?_); refine gU ?_; refine gc (some 16) Try.func106 #[.float .f64 fv, .float .f64 0] (ref_of.calls _ _ _) ?_; rintro e wa4 ⟨rfl, hb⟩; refine ⟨_, rfl, ?_⟩; have K_ := kb hb; replace a0 := mvB a0 K_; replace a1 := mvB a1 K_; replace Z := zA Z (K_.1); replace HBW := bS HBW hb; clear hb K_; replace a2 := z5 a0; replace a5 := zf5 a1))
 refine bodyPost_ret (results_ct3 rfl _ _ b2 58 #[.bool true, .bool false, .slice none 0 0, .float .f64 fv, .float .f64 0] (0, 0) _ rfl (bp a1) Try.underlying58 rfl (by kernel_rfl)) rfl ?_
 exact ⟨rfl, below_set (below_set (below_set (below_set (below_set (HBW.out) (leZ Z)) (leZ Z)) (leZ Z)) (leZ Z)) (leZ Z)⟩
theorem ref_times.calls (xs : Bool) (Ax : Option Addr) (nx cx : Nat) (a b : Nat) (ys : Bool) (Ay : Option Addr) (ny cy : Nat) (c d : Nat) (w : World) :
  Calls Try.prog 122 #[.agg #[.bool true, .bool xs, .slice Ax nx cx, .float .f64 a, .float .f64 b], .agg #[.bool true, .bool ys, .slice Ay ny cy, .float .f64 c, .float .f64 d]] w fun e w' => ∃ re im, e = .returned (.agg #[.bool true, .bool false, .slice none 0 0, .float .f64 re, .float .f64 im]) ∧ TimesR a b c d re im ∧ Below w.heap.size w w' := by
 have hu24 := Try.underlying24
 have hu25 := Try.underlying25
 have hu61 := Try.underlying61
 have hu58 := Try.underlying58
 have HBW := Aside0.mk (Below.refl w.heap.size w)
 have Z := Aside0.mk (show w.heap.size ≤ w.heap.size from Nat.le_refl _)
 go_enter Try.func122, Try.ntmps122
 go_wp2_with (first
  | ((with_reducible refine gd 2 rfl ?_); refine bY 2 rfl #[.bool true, .bool xs, .slice Ax nx cx, .float .f64 a, .float .f64 b] 58 ?_; intro b2 hg wa1 hbox hb K_; replace Z := zN Z K_ hg hbox; replace HBW := bS HBW hb; have a0 := Aside0.mk hbox; clear hb hbox hg K_; have a3 := z5 a0)
  | ((with_reducible refine gd 3 rfl ?_); refine bY 3 rfl #[.bool true, .bool ys, .slice Ay ny cy, .float .f64 c, .float .f64 d] 58 ?_; intro b3 hg wa2 hbox hb K_; replace a0 := mvB a0 K_; replace Z := zN Z K_ hg hbox; replace HBW := bS HBW hb; have a1 := Aside0.mk hbox; clear hb hbox hg K_; replace a3 := z5 a0; have a4 := z5 a1)
  | ((with_reducible refine gd 4 rfl ?_); refine bY 4 rfl #[.bool false, .bool false, .slice none 0 0, .float .f64 0, .float .f64 0] 58 ?_; intro b4 hg wa3 hbox hb K_; replace a0 := mvB a0 K_; replace a1 := mvB a1 K_; replace Z := zN Z K_ hg hbox; replace HBW := bS HBW hb; have a2 := Aside0.mk hbox; clear hb hbox hg K_; replace a3 := z5 a0; replace a4 := z5 a1; have a5 := zf5 a2; obtain ⟨a9, a7⟩ := neZ Z b4 b2; obtain ⟨a6, a8⟩ := neZ Z b4 b3)
  | ((with_reducible refine gd 9 rfl ?_); (try (refine gate_guard (by rfl) ?_; dsimp only)); refine float_event rfl rfl (by simp) rfl rfl ?_; intro r1 wa4 hf hb; have Fr1 := Aside0.mk hf; clear hf; have K_ := kb hb; replace a0 := mvB a0 K_; replace a1 := mvB a1 K_; replace a2 := mvB a2 K_; replace Z := zA Z (K_.1); replace HBW := bS HBW hb; clear hb K_; replace a3 := z5 a0; replace a4 := z5 a1; replace a5 := zf5 a2)
  | ((with_reducible refine gd 14 rfl ?_); (try (refine gate_guard (by rfl) ?_; dsimp only)); refine float_event rfl rfl (by simp) rfl rfl ?_; intro r2 wa5 hf hb; have Fr2 := Aside0.mk hf; clear hf; have K_ := kb hb; replace a0 := mvB a0 K_; replace a1 := mvB a1 K_; replace a2 := mvB a2 K_; replace Z := zA Z (K_.1); replace HBW := bS HBW hb; clear hb K_; replace a3 := z5 a0; replace a4 := z5 a1; replace a5 := zf5 a2)
  | ((with_reducible refine gd 15 rfl ?_); (try (refine gate_guard (by rfl) ?_; dsimp only)); refine float_event rfl rfl (by simp) rfl rfl ?_; intro r3 wa6 hf hb; have Fr3 := Aside0.mk hf; clear hf; have K_ := kb hb; replace a0 := mvB a0 K_; replace a1 := mvB a1 K_; replace a2 := mvB a2 K_; replace Z := zA Z (K_.1); replace HBW := bS HBW hb; clear hb K_; replace a3 := z5 a0; replace a4 := z5 a1; replace a5 := zf5 a2)
  | ((with_reducible refine gd 20 rfl ?_); (try (refine gate_guard (by rfl) ?_; dsimp only)); refine float_event rfl rfl (by simp) rfl rfl ?_; intro r4 wa7 hf hb; have Fr4 := Aside0.mk hf; clear hf; have K_ := kb hb; replace a0 := mvB a0 K_; replace a1 := mvB a1 K_; replace a2 := mvB a2 K_; replace Z := zA Z (K_.1); replace HBW := bS HBW hb; clear hb K_; replace a3 := z5 a0; replace a4 := z5 a1; replace a5 := zf5 a2)
  | ((with_reducible refine gd 25 rfl ?_); (try (refine gate_guard (by rfl) ?_; dsimp only)); refine float_event rfl rfl (by simp) rfl rfl ?_; intro r5 wa8 hf hb; have Fr5 := Aside0.mk hf; clear hf; have K_ := kb hb; replace a0 := mvB a0 K_; replace a1 := mvB a1 K_; replace a2 := mvB a2 K_; replace Z := zA Z (K_.1); replace HBW := bS HBW hb; clear hb K_; replace a3 := z5 a0; replace a4 := z5 a1; replace a5 := zf5 a2)
  | ((with_reducible refine gd 26 rfl ?_); (try (refine gate_guard (by rfl) ?_; dsimp only)); refine float_event rfl rfl (by simp) rfl rfl ?_; intro r6 wa9 hf hb; have Fr6 := Aside0.mk hf; clear hf; have K_ := kb hb; replace a0 := mvB a0 K_; replace a1 := mvB a1 K_; replace a2 := mvB a2 K_; replace Z := zA Z (K_.1); replace HBW := bS HBW hb; clear hb K_; replace a3 := z5 a0; replace a4 := z5 a1; replace a5 := zf5 a2)
  | ((with_reducible refine gd 27 rfl ?_); refine gU ?_; refine gc (some 27) Try.func106 #[.float .f64 r3, .float .f64 r6] (ref_of.calls _ _ _) ?_; rintro e wa10 ⟨rfl, hb⟩; refine ⟨_, rfl, ?_⟩; have K_ := kb hb; replace a0 := mvB a0 K_; replace a1 := mvB a1 K_; replace a2 := mvB a2 K_; replace Z := zA Z (K_.1); replace HBW := bS HBW hb; clear hb K_; replace a3 := z5 a0; replace a4 := z5 a1; replace a5 := zf5 a2))
 refine bodyPost_ret (results_cell_row rfl _ _ b4 58 #[.bool true, .bool false, .slice none 0 0, .float .f64 r3, .float .f64 r6] (0, 0) _ rfl (bp a2) Try.underlying58 rfl (by kernel_rfl)) rfl ?_
 exact ⟨_, _, rfl, ⟨_, _, _, _, Fr1.out, Fr2.out, Fr3.out, Fr4.out, Fr5.out, Fr6.out⟩, below_set (below_set (below_set (below_set (below_set (HBW.out) (leZ Z)) (leZ Z)) (leZ Z)) (leZ Z)) (leZ Z)⟩
/-- The quotient as the document has it. -/
def ROverR (a b c d re im : Nat) : Prop := ∃ p q n x1 x2 x y1 y2 y, FO .mul c c p ∧ FO .mul d d q ∧ FO .add p q n ∧ FO .mul a c x1 ∧ FO .mul b d x2 ∧ FO .add x1 x2 x ∧ FO .quo x n re ∧ FO .mul b c y1 ∧ FO .mul a d y2 ∧ FO .sub y1 y2 y ∧ FO .quo y n im
theorem ref_over.calls (xs : Bool) (Ax : Option Addr) (nx cx : Nat) (a b : Nat) (ys : Bool) (Ay : Option Addr) (ny cy : Nat) (c d : Nat) (w : World) :
  Calls Try.prog 123 #[.agg #[.bool true, .bool xs, .slice Ax nx cx, .float .f64 a, .float .f64 b], .agg #[.bool true, .bool ys, .slice Ay ny cy, .float .f64 c, .float .f64 d]] w fun e w' => ∃ re im, e = .returned (.agg #[.bool true, .bool false, .slice none 0 0, .float .f64 re, .float .f64 im]) ∧ ROverR a b c d re im ∧ Below w.heap.size w w' := by
 have hu24 := Try.underlying24
 have hu25 := Try.underlying25
 have hu61 := Try.underlying61
 have hu58 := Try.underlying58
 have HBW := Aside0.mk (Below.refl w.heap.size w)
 have Z := Aside0.mk (show w.heap.size ≤ w.heap.size from Nat.le_refl _)
 go_enter Try.func123, Try.ntmps123
 go_wp2_with (first
  | ((with_reducible refine gd 2 rfl ?_); refine bY 2 rfl #[.bool true, .bool xs, .slice Ax nx cx, .float .f64 a, .float .f64 b] 58 ?_; intro b2 hg wa1 hbox hb K_; replace Z := zN Z K_ hg hbox; replace HBW := bS HBW hb; have a0 := Aside0.mk hbox; clear hb hbox hg K_; have a3 := z5 a0)
  | ((with_reducible refine gd 3 rfl ?_); refine bY 3 rfl #[.bool true, .bool ys, .slice Ay ny cy, .float .f64 c, .float .f64 d] 58 ?_; intro b3 hg wa2 hbox hb K_; replace a0 := mvB a0 K_; replace Z := zN Z K_ hg hbox; replace HBW := bS HBW hb; have a1 := Aside0.mk hbox; clear hb hbox hg K_; replace a3 := z5 a0; have a4 := z5 a1)
  | ((with_reducible refine gd 4 rfl ?_); refine bY 4 rfl #[.bool false, .bool false, .slice none 0 0, .float .f64 0, .float .f64 0] 58 ?_; intro b4 hg wa3 hbox hb K_; replace a0 := mvB a0 K_; replace a1 := mvB a1 K_; replace Z := zN Z K_ hg hbox; replace HBW := bS HBW hb; have a2 := Aside0.mk hbox; clear hb hbox hg K_; replace a3 := z5 a0; replace a4 := z5 a1; have a5 := zf5 a2; obtain ⟨a9, a7⟩ := neZ Z b4 b2; obtain ⟨a6, a8⟩ := neZ Z b4 b3)
  | ((with_reducible refine gd 10 rfl ?_); (try (refine gate_guard (by rfl) ?_; dsimp only)); refine float_event rfl rfl (by simp) rfl rfl ?_; intro r1 wa4 hf hb; have Fr1 := Aside0.mk hf; clear hf; have K_ := kb hb; replace a0 := mvB a0 K_; replace a1 := mvB a1 K_; replace a2 := mvB a2 K_; replace Z := zA Z (K_.1); replace HBW := bS HBW hb; clear hb K_; replace a3 := z5 a0; replace a4 := z5 a1; replace a5 := zf5 a2)
  | ((with_reducible refine gd 15 rfl ?_); (try (refine gate_guard (by rfl) ?_; dsimp only)); refine float_event rfl rfl (by simp) rfl rfl ?_; intro r2 wa5 hf hb; have Fr2 := Aside0.mk hf; clear hf; have K_ := kb hb; replace a0 := mvB a0 K_; replace a1 := mvB a1 K_; replace a2 := mvB a2 K_; replace Z := zA Z (K_.1); replace HBW := bS HBW hb; clear hb K_; replace a3 := z5 a0; replace a4 := z5 a1; replace a5 := zf5 a2)
  | ((with_reducible refine gd 16 rfl ?_); (try (refine gate_guard (by rfl) ?_; dsimp only)); refine float_event rfl rfl (by simp) rfl rfl ?_; intro r3 wa6 hf hb; have Fr3 := Aside0.mk hf; clear hf; have K_ := kb hb; replace a0 := mvB a0 K_; replace a1 := mvB a1 K_; replace a2 := mvB a2 K_; replace Z := zA Z (K_.1); replace HBW := bS HBW hb; clear hb K_; replace a3 := z5 a0; replace a4 := z5 a1; replace a5 := zf5 a2)
  | ((with_reducible refine gd 21 rfl ?_); (try (refine gate_guard (by rfl) ?_; dsimp only)); refine float_event rfl rfl (by simp) rfl rfl ?_; intro r4 wa7 hf hb; have Fr4 := Aside0.mk hf; clear hf; have K_ := kb hb; replace a0 := mvB a0 K_; replace a1 := mvB a1 K_; replace a2 := mvB a2 K_; replace Z := zA Z (K_.1); replace HBW := bS HBW hb; clear hb K_; replace a3 := z5 a0; replace a4 := z5 a1; replace a5 := zf5 a2)
  | ((with_reducible refine gd 26 rfl ?_); (try (refine gate_guard (by rfl) ?_; dsimp only)); refine float_event rfl rfl (by simp) rfl rfl ?_; intro r5 wa8 hf hb; have Fr5 := Aside0.mk hf; clear hf; have K_ := kb hb; replace a0 := mvB a0 K_; replace a1 := mvB a1 K_; replace a2 := mvB a2 K_; replace Z := zA Z (K_.1); replace HBW := bS HBW hb; clear hb K_; replace a3 := z5 a0; replace a4 := z5 a1; replace a5 := zf5 a2)
  | ((with_reducible refine gd 27 rfl ?_); (try (refine gate_guard (by rfl) ?_; dsimp only)); refine float_event rfl rfl (by simp) rfl rfl ?_; intro r6 wa9 hf hb; have Fr6 := Aside0.mk hf; clear hf; have K_ := kb hb; replace a0 := mvB a0 K_; replace a1 := mvB a1 K_; replace a2 := mvB a2 K_; replace Z := zA Z (K_.1); replace HBW := bS HBW hb; clear hb K_; replace a3 := z5 a0; replace a4 := z5 a1; replace a5 := zf5 a2)
  | ((with_reducible refine gd 29 rfl ?_); (try (refine gate_guard (by rfl) ?_; dsimp only)); refine float_event rfl rfl (by simp) rfl rfl ?_; intro r7 wa10 hf hb; have Fr7 := Aside0.mk hf; clear hf; have K_ := kb hb; replace a0 := mvB a0 K_; replace a1 := mvB a1 K_; replace a2 := mvB a2 K_; replace Z := zA Z (K_.1); replace HBW := bS HBW hb; clear hb K_; replace a3 := z5 a0; replace a4 := z5 a1; replace a5 := zf5 a2)
  | ((with_reducible refine gd 34 rfl ?_); (try (refine gate_guard (by rfl) ?_; dsimp only)); refine float_event rfl rfl (by simp) rfl rfl ?_; intro r8 wa11 hf hb; have Fr8 := Aside0.mk hf; clear hf; have K_ := kb hb; replace a0 := mvB a0 K_; replace a1 := mvB a1 K_; replace a2 := mvB a2 K_; replace Z := zA Z (K_.1); replace HBW := bS HBW hb; clear hb K_; replace a3 := z5 a0; replace a4 := z5 a1; replace a5 := zf5 a2)
  | ((with_reducible refine gd 39 rfl ?_); (try (refine gate_guard (by rfl) ?_; dsimp only)); refine float_event rfl rfl (by simp) rfl rfl ?_; intro r9 wa12 hf hb; have Fr9 := Aside0.mk hf; clear hf; have K_ := kb hb; replace a0 := mvB a0 K_; replace a1 := mvB a1 K_; replace a2 := mvB a2 K_; replace Z := zA Z (K_.1); replace HBW := bS HBW hb; clear hb K_; replace a3 := z5 a0; replace a4 := z5 a1; replace a5 := zf5 a2)
  | ((with_reducible refine gd 40 rfl ?_); (try (refine gate_guard (by rfl) ?_; dsimp only)); refine float_event rfl rfl (by simp) rfl rfl ?_; intro ra wa13 hf hb; have Fra := Aside0.mk hf; clear hf; have K_ := kb hb; replace a0 := mvB a0 K_; replace a1 := mvB a1 K_; replace a2 := mvB a2 K_; replace Z := zA Z (K_.1); replace HBW := bS HBW hb; clear hb K_; replace a3 := z5 a0; replace a4 := z5 a1; replace a5 := zf5 a2)
  | ((with_reducible refine gd 42 rfl ?_); (try (refine gate_guard (by rfl) ?_; dsimp only)); refine float_event rfl rfl (by simp) rfl rfl ?_; intro rb wa14 hf hb; have Frb := Aside0.mk hf; clear hf; have K_ := kb hb; replace a0 := mvB a0 K_; replace a1 := mvB a1 K_; replace a2 := mvB a2 K_; replace Z := zA Z (K_.1); replace HBW := bS HBW hb; clear hb K_; replace a3 := z5 a0; replace a4 := z5 a1; replace a5 := zf5 a2)
  | ((with_reducible refine gd 43 rfl ?_); refine gU ?_; refine gc (some 43) Try.func106 #[.float .f64 r7, .float .f64 rb] (ref_of.calls _ _ _) ?_; rintro e wa15 ⟨rfl, hb⟩; refine ⟨_, rfl, ?_⟩; have K_ := kb hb; replace a0 := mvB a0 K_; replace a1 := mvB a1 K_; replace a2 := mvB a2 K_; replace Z := zA Z (K_.1); replace HBW := bS HBW hb; clear hb K_; replace a3 := z5 a0; replace a4 := z5 a1; replace a5 := zf5 a2))
 refine bodyPost_ret (results_cell_row rfl _ _ b4 58 #[.bool true, .bool false, .slice none 0 0, .float .f64 r7, .float .f64 rb] (0, 0) _ rfl (bp a2) Try.underlying58 rfl (by kernel_rfl)) rfl ?_
 exact ⟨_, _, rfl, ⟨_, _, _, _, _, _, _, _, _, Fr1.out, Fr2.out, Fr3.out, Fr4.out, Fr5.out, Fr6.out, Fr7.out, Fr8.out, Fr9.out, Fra.out, Frb.out⟩, below_set (below_set (below_set (below_set (below_set (HBW.out) (leZ Z)) (leZ Z)) (leZ Z)) (leZ Z)) (leZ Z)⟩
end Go.Proofs.Ytfjbhccapgnkiaa.P
