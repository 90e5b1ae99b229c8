import Derived.Test.YtfjbhccapgnkiaaN0
import Derived.Test.YtfjbhccapgnkiaaV0
namespace Go.Proofs.Ytfjbhccapgnkiaa.P
open Go.RowKit Go.Proofs.YtfjbhccapgnkiaaW.PrintWords Go.Proofs.YtfjbhccapgnkiaaW.PrintLast Go.Proofs.YtfjbhccapgnkiaaW.PrintMore
attribute [local go_sem] max2_int min2_int max_two min_two max_three min_three max_four min_four
set_option linter.unusedVariables false
set_option maxHeartbeats 16000000
set_option maxRecDepth 100000
set_option linter.unusedSimpArgs false
attribute [local go_sem] stC stF
/-! ### lapidaryref06.bits, alike, Same; lapidarylaw06.taken -/
theorem nanB_q : nanB 9221120237041090561 = true := by decide +kernel
theorem bitsN_nan {x : Nat} (h : nanB x = true) : bitsN x = 9221120237041090561 := by unfold bitsN; rw [if_pos h]
theorem bitsN_num {x : Nat} (h : nanB x = false) : bitsN x = x := by unfold bitsN; rw [h]; rfl
/-- Are two floats alike, all that are no number being so? -/
def bsame (a b : Nat) : Bool := decide (bitsN a = bitsN b)
theorem bsame_ff {a b : Nat} (ha : nanB a = false) (hb : nanB b = false) : ((a : Int) == (b : Int)) = bsame a b := by
 unfold bsame
 rw [bitsN_num ha, bitsN_num hb]
 by_cases h : a = b
 ·subst h; simp
 ·rw [decide_eq_false h, beq_eq_false_iff_ne]; omega
theorem bsame_tf {a b : Nat} (ha : nanB a = true) (hb : nanB b = false) : false = bsame a b := by
 unfold bsame
 rw [bitsN_nan ha, bitsN_num hb, decide_eq_false]
 intro h
 rw [← h, nanB_q] at hb
 cases hb
theorem bsame_ft {a b : Nat} (ha : nanB a = false) (hb : nanB b = true) : false = bsame a b := by
 unfold bsame
 rw [bitsN_num ha, bitsN_nan hb, decide_eq_false]
 intro h
 rw [h, nanB_q] at ha
 cases ha
theorem bsame_tt {a b : Nat} (ha : nanB a = true) (hb : nanB b = true) : true = bsame a b := by
 unfold bsame
 rw [bitsN_nan ha, bitsN_nan hb]; rfl
theorem ref_bits.calls (a b : Nat) (w : World) : Calls Try.prog 124 #[.float .f64 a, .float .f64 b] w fun e w' => e = .returned (.bool (bsame a b)) ∧ Below w.heap.size w w' := by
 have h1 := fun b w => f64bits_run b w
 have HB := Aside0.mk (Below.refl w.heap.size w)
 cases ha : nanB a <;> cases hb : nanB b
 all_goals (
  have HA := Aside0.mk ha
  have a0 := Aside0.mk hb
  have k1 := nan_eq a
  rw [ha] at k1
  have k2 := nan_eq b
  rw [hb] at k2
  clear ha hb
  go_enter Try.func124, Try.ntmps124
  go_wp2
  go_ret
  first
   | exact ⟨congrArg (fun q => Ending.returned (Value.bool q)) (bsame_ff HA.out a0.out), HB.out⟩
   | exact ⟨congrArg (fun q => Ending.returned (Value.bool q)) (bsame_tf HA.out a0.out), HB.out⟩
   | exact ⟨congrArg (fun q => Ending.returned (Value.bool q)) (bsame_ft HA.out a0.out), HB.out⟩
   | exact ⟨congrArg (fun q => Ending.returned (Value.bool q)) (bsame_tt HA.out a0.out), HB.out⟩)
theorem ref_alike.f (xp xs : Bool) (Ax : Option Addr) (nx cx : Nat) (xa xb : Nat) (yp ys : Bool) (Ay : Option Addr) (ny cy : Nat) (ya yb : Nat) (w : World) (h1 : bsame xa ya = false) :
  Calls Try.prog 98 #[.agg #[.bool xp, .bool xs, .slice Ax nx cx, .float .f64 xa, .float .f64 xb], .agg #[.bool yp, .bool ys, .slice Ay ny cy, .float .f64 ya, .float .f64 yb]] w fun e w' => e = .returned (.bool false) ∧ Below w.heap.size w w' := by
 have hu24 := Try.underlying24
 have hu25 := Try.underlying25
 have hu61 := Try.underlying61
 have hu58 := Try.underlying58
 have n_ := Aside0.mk h1
 clear h1
 have h1 := n_
 clear n_
 have HBW := Aside0.mk (Below.refl w.heap.size w)
 have Z := Aside0.mk (show w.heap.size ≤ w.heap.size from Nat.le_refl _)
 go_enter Try.func98, Try.ntmps98
 go_wp2_with (first
  | ((with_reducible refine gd 2 rfl ?_); refine bY 2 rfl #[.bool xp, .bool xs, .slice Ax nx cx, .float .f64 xa, .float .f64 xb] 58 ?_; intro b2 hg wa1 hbox hb K_; replace Z := zN Z K_ hg hbox; replace HBW := bS HBW hb; have a0 := Aside0.mk hbox; clear hb hbox hg K_; have a2 := z5 a0)
  | ((with_reducible refine gd 3 rfl ?_); refine bY 3 rfl #[.bool yp, .bool ys, .slice Ay ny cy, .float .f64 ya, .float .f64 yb] 58 ?_; intro b3 hg wa2 hbox hb K_; replace a0 := mvB a0 K_; replace Z := zN Z K_ hg hbox; replace HBW := bS HBW hb; have a1 := Aside0.mk hbox; clear hb hbox hg K_; replace a2 := z5 a0; have zb3 := z5 a1)
  | ((with_reducible refine gd 9 rfl ?_); refine gU ?_; refine gc (some 9) Try.func124 #[.float .f64 xa, .float .f64 ya] (ref_bits.calls xa ya _) ?_; rintro e wa3 ⟨rfl, hb⟩; rw [h1.out]; refine ⟨_, rfl, ?_⟩; have K_ := kb hb; replace a0 := mvB a0 K_; replace a1 := mvB a1 K_; replace Z := zA Z (K_.1); replace HBW := bS HBW hb; clear hb K_; replace a2 := z5 a0; replace zb3 := z5 a1))
 go_ret
 exact ⟨rfl, HBW.out⟩
theorem ref_alike.t (xp xs : Bool) (Ax : Option Addr) (nx cx : Nat) (xa xb : Nat) (yp ys : Bool) (Ay : Option Addr) (ny cy : Nat) (ya yb : Nat) (w : World) (h1 : bsame xa ya = true) :
  Calls Try.prog 98 #[.agg #[.bool xp, .bool xs, .slice Ax nx cx, .float .f64 xa, .float .f64 xb], .agg #[.bool yp, .bool ys, .slice Ay ny cy, .float .f64 ya, .float .f64 yb]] w fun e w' => e = .returned (.bool (bsame xb yb)) ∧ Below w.heap.size w w' := by
 have hu24 := Try.underlying24
 have hu25 := Try.underlying25
 have hu61 := Try.underlying61
 have hu58 := Try.underlying58
 have n_ := Aside0.mk h1
 clear h1
 have h1 := n_
 clear n_
 have HBW := Aside0.mk (Below.refl w.heap.size w)
 have Z := Aside0.mk (show w.heap.size ≤ w.heap.size from Nat.le_refl _)
 go_enter Try.func98, Try.ntmps98
 go_wp2_with (first
  | ((with_reducible refine gd 2 rfl ?_); refine bY 2 rfl #[.bool xp, .bool xs, .slice Ax nx cx, .float .f64 xa, .float .f64 xb] 58 ?_; intro b2 hg wa1 hbox hb K_; replace Z := zN Z K_ hg hbox; replace HBW := bS HBW hb; have a0 := Aside0.mk hbox; clear hb hbox hg K_; have a2 := z5 a0)
  | ((with_reducible refine gd 3 rfl ?_); refine bY 3 rfl #[.bool yp, .bool ys, .slice Ay ny cy, .float .f64 ya, .float .f64 yb] 58 ?_; intro b3 hg wa2 hbox hb K_; replace a0 := mvB a0 K_; replace Z := zN Z K_ hg hbox; replace HBW := bS HBW hb; have a1 := Aside0.mk hbox; clear hb hbox hg K_; replace a2 := z5 a0; have a3 := z5 a1)
  | ((with_reducible refine gd 9 rfl ?_); refine gU ?_; refine gc (some 9) Try.func124 #[.float .f64 xa, .float .f64 ya] (ref_bits.calls xa ya _) ?_; rintro e wa3 ⟨rfl, hb⟩; rw [h1.out]; refine ⟨_, rfl, ?_⟩; have K_ := kb hb; replace a0 := mvB a0 K_; replace a1 := mvB a1 K_; replace Z := zA Z (K_.1); replace HBW := bS HBW hb; clear hb K_; replace a2 := z5 a0; replace a3 := z5 a1)
  | ((with_reducible refine gd 15 rfl ?_); refine gU ?_; refine gc (some 15) Try.func124 #[.float .f64 xb, .float .f64 yb] (ref_bits.calls xb yb _) ?_; rintro e wa4 ⟨rfl, hb⟩; refine ⟨_, rfl, ?_⟩; have K_ := kb hb; replace a0 := mvB a0 K_; replace a1 := mvB a1 K_; replace Z := zA Z (K_.1); replace HBW := bS HBW hb; clear hb K_; replace a2 := z5 a0; replace a3 := z5 a1))
 go_ret
 exact ⟨rfl, HBW.out⟩
theorem ref_alike.calls (xp xs : Bool) (Ax : Option Addr) (nx cx : Nat) (xa xb : Nat) (yp ys : Bool) (Ay : Option Addr) (ny cy : Nat) (ya yb : Nat) (w : World) : Calls Try.prog 98 #[.agg #[.bool xp, .bool xs, .slice Ax nx cx, .float .f64 xa, .float .f64 xb], .agg #[.bool yp, .bool ys, .slice Ay ny cy, .float .f64 ya, .float .f64 yb]] w fun e w' => e = .returned (.bool (bsame xa ya && bsame xb yb)) ∧ Below w.heap.size w w' := by
 cases h : bsame xa ya
 ·exact ref_alike.f _ _ _ _ _ _ _ _ _ _ _ _ _ _ w h
 ·exact ref_alike.t _ _ _ _ _ _ _ _ _ _ _ _ _ _ w h
theorem ref_Same.t (p s : Bool) (l : List Int) (Ax : Option Addr) (cx : Nat) (xa xb : Nat) (Ay : Option Addr) (cy : Nat) (ya yb : Nat) (w : World) (hrx : Kd.C (Kd.int .u8) w Ax l.length l) (hcx : l.length ≤ cx) (hry : Kd.C (Kd.int .u8) w Ay l.length l) (hcy : l.length ≤ cy) (h1 : bsame xa ya = true) (h2 : bsame xb yb = true) :
  Calls Try.prog 54 #[.agg #[.bool p, .bool s, .slice Ax l.length cx, .float .f64 xa, .float .f64 xb], .agg #[.bool p, .bool s, .slice Ay l.length cy, .float .f64 ya, .float .f64 yb]] w fun e w' => e = .returned (.bool true) ∧ Below w.heap.size w w' := by
 have hu24 := Try.underlying24
 have hu25 := Try.underlying25
 have hu61 := Try.underlying61
 have hu58 := Try.underlying58
 have n_ := Aside0.mk hrx
 clear hrx
 have hrx := n_
 clear n_
 have n_ := Aside0.mk hcx
 clear hcx
 have hcx := n_
 clear n_
 have n_ := Aside0.mk hry
 clear hry
 have hry := n_
 clear n_
 have n_ := Aside0.mk hcy
 clear hcy
 have hcy := n_
 clear n_
 have n_ := Aside0.mk h1
 clear h1
 have h1 := n_
 clear n_
 have n_ := Aside0.mk h2
 clear h2
 have h2 := n_
 clear n_
 have HBW := Aside0.mk (Below.refl w.heap.size w)
 have Z := Aside0.mk (show w.heap.size ≤ w.heap.size from Nat.le_refl _)
 go_enter Try.func54, Try.ntmps54
 go_wp2_with (first
  | ((with_reducible refine gd 2 rfl ?_); refine bY 2 rfl #[.bool p, .bool s, .slice Ax l.length cx, .float .f64 xa, .float .f64 xb] 58 ?_; intro b2 hg wa1 hbox hb K_; replace Z := zN Z K_ hg hbox; replace HBW := bS HBW hb; have a0 := Aside0.mk hbox; clear hb hbox hg K_; have a2 := z5 a0)
  | ((with_reducible refine gd 3 rfl ?_); refine bY 3 rfl #[.bool p, .bool s, .slice Ay l.length cy, .float .f64 ya, .float .f64 yb] 58 ?_; intro b3 hg wa2 hbox hb K_; replace a0 := mvB a0 K_; replace Z := zN Z K_ hg hbox; replace HBW := bS HBW hb; have a1 := Aside0.mk hbox; clear hb hbox hg K_; replace a2 := z5 a0; have a3 := z5 a1)
  | ((with_reducible refine gd 15 rfl ?_); refine gU ?_; refine gc (some 15) Try.func35 #[.agg #[.bool s, .slice Ax l.length cx], .agg #[.bool s, .slice Ay l.length cy]] (lapidaryref02_Same.calls s Ax cx l s Ay cy l true _ (Kd.C_below hrx.out HBW.out) hcx.out (Kd.C_below hry.out HBW.out) hcy.out (same_true s l)) ?_; rintro e wa3 ⟨rfl, hb⟩; refine ⟨_, rfl, ?_⟩; have K_ := kb hb; replace a0 := mvB a0 K_; replace a1 := mvB a1 K_; replace Z := zA Z (K_.1); replace HBW := bS HBW hb; clear hb K_; replace a2 := z5 a0; replace a3 := z5 a1)
  | ((with_reducible refine gd 20 rfl ?_); refine gU ?_; refine gc (some 20) Try.func98 #[.agg #[.bool p, .bool s, .slice Ax l.length cx, .float .f64 xa, .float .f64 xb], .agg #[.bool p, .bool s, .slice Ay l.length cy, .float .f64 ya, .float .f64 yb]] (ref_alike.t p s Ax l.length cx xa xb p s Ay l.length cy ya yb _ h1.out) ?_; rintro e wa4 ⟨rfl, hb⟩; rw [h2.out]; refine ⟨_, rfl, ?_⟩; have K_ := kb hb; replace a0 := mvB a0 K_; replace a1 := mvB a1 K_; replace Z := zA Z (K_.1); replace HBW := bS HBW hb; clear hb K_; replace a2 := z5 a0; replace a3 := z5 a1))
 go_ret
 exact ⟨rfl, HBW.out⟩
theorem law_taken6 (p s : Bool) (A : Option Addr) (n c : Nat) (a b : Nat) (w : World) :
  Calls Try.prog 55 #[.agg #[.bool p, .bool s, .slice A n c, .complex .f64 a b]] w fun e w' => e = .returned (.agg #[.bool p, .bool s, .slice A n c, .float .f64 a, .float .f64 b]) ∧ Below w.heap.size w w' := by
 have hu24 := Try.underlying24
 have hu25 := Try.underlying25
 have hu61 := Try.underlying61
 have hu58 := Try.underlying58
 have HBW := Aside0.mk (Below.refl w.heap.size w)
 have Z := Aside0.mk (show w.heap.size ≤ w.heap.size from Nat.le_refl _)
 go_enter Try.func55, Try.ntmps55
 go_wp2_with (first
  | ((with_reducible refine gd 1 rfl ?_); refine bY 1 rfl #[.bool p, .bool s, .slice A n c, .complex .f64 a b] 61 ?_; intro b1 hg wa1 hbox hb K_; replace Z := zN Z K_ hg hbox; replace HBW := bS HBW hb; have a0 := Aside0.mk hbox; clear hb hbox hg K_; have zb1 := z4 a0)
  | ((with_reducible refine gd 2 rfl ?_); refine bY 2 rfl #[.bool false, .bool false, .slice none 0 0, .float .f64 0, .float .f64 0] 58 ?_; intro b2 hg wa2 hbox hb K_; replace a0 := mvB a0 K_; replace Z := zN Z K_ hg hbox; replace HBW := bS HBW hb; have a1 := Aside0.mk hbox; clear hb hbox hg K_; replace zb1 := z4 a0; have zb2 := zf5 a1; obtain ⟨a2, a3⟩ := neZ Z b2 b1))
 refine bodyPost_ret (results_cell_row rfl _ _ b2 58 #[.bool p, .bool s, .slice A n c, .float .f64 a, .float .f64 b] (0, 0) _ rfl (bp a1) Try.underlying58 rfl (by kernel_rfl)) rfl ?_
 exact ⟨rfl, below_set (below_set (below_set (below_set (below_set (HBW.out) (by have hZ := Z.out; omega)) (by have hZ := Z.out; omega)) (by have hZ := Z.out; omega)) (by have hZ := Z.out; omega)) (by have hZ := Z.out; omega)⟩
end Go.Proofs.Ytfjbhccapgnkiaa.P
