import Derived.Test.YtpodpmjlkbbkoaaQCLW
import Derived.Test.YtpodpmjlkbbkoaaQCZ2
set_option linter.all false
namespace Go.Proofs.Ytpodpmjlkbbkoaa.P
open Go.RowKit Go.Proofs.YtpodpmjlkbbkoaaW.PrintWords Go.Proofs.YtpodpmjlkbbkoaaW.PrintLast Go.Proofs.YtpodpmjlkbbkoaaW.PrintMore
attribute [local go_sem] max2_int min2_int max_two min_two max_three min_three max_four min_four
set_option maxHeartbeats 16000000
set_option maxRecDepth 100000
noncomputable section
attribute [local go_sem high] eqA43
def lapidaryref09_Same.l0 : Nat → List (S43) → List (S43) → Int → Option (Bool)
 | 0, _, _, _ => none
 | k + 1, x0, x1, x5 => if x5 < (x0.length : Int) then (if 0 ≤ x5 then (if x5 < (x1.length : Int) then (if (!(((rd_T43 x0 x5).f0) == ((rd_T43 x1 x5).f0)) || (!((((rd_T43 x0 x5).f1).toList) == (((rd_T43 x1 x5).f1).toList)) || (!(((rd_T43 x0 x5).f2) == ((rd_T43 x1 x5).f2)) || (!(((rd_T43 x0 x5).f3) == ((rd_T43 x1 x5).f3)) || (!(((rd_T43 x0 x5).f4) == ((rd_T43 x1 x5).f4)) || (!(((rd_T43 x0 x5).f5) == ((rd_T43 x1 x5).f5)))))))) = true then (some false) else (lapidaryref09_Same.l0 k x0 x1 (wrap64 (x5 + 1)))) else (none)) else (none)) else (some true)
def lapidaryref09_Same.f (k : Nat) (l0 : List (S43)) (l1 : List (S43)) : Option (Bool) := if (l0.length : Int) = (l1.length : Int) then (lapidaryref09_Same.l0 k l0 l1 0) else (some false)
theorem lapidaryref09_Same.calls (k : Nat) (A0 : Option Addr) (c0 : Nat) (l0 : List (S43)) (A1 : Option Addr) (c1 : Nat) (l1 : List (S43)) (r : Bool) (w : World) (hr0 : Kd.C k43 w A0 l0.length l0) (hc0 : l0.length ≤ c0) (hr1 : Kd.C k43 w A1 l1.length l1) (hc1 : l1.length ≤ c1) (h : lapidaryref09_Same.f k l0 l1 = some r) :
  Calls Try.prog 8 #[.slice A0 l0.length c0, .slice A1 l1.length c1] w fun e w' => e = .returned (.bool r) ∧ Drawn0 w w' := by
 have hu43 := Try.underlying43
 have O := Aside0.mk hr0
 have L := Aside0.mk hc0
 clear hr0 hc0
 have U := Aside0.mk hr1
 have P := Aside0.mk hc1
 clear hr1 hc1
 have H : (if (l0.length : Int) = (l1.length : Int) then (lapidaryref09_Same.l0 k l0 l1 0) else (some false)) = some r := h
 clear h
 by_cases j : (l0.length : Int) = (l1.length : Int)
 ·rw [if_pos j] at H
  have B : ((l0.length : Int) == (l1.length : Int)) = true := beq_iff_eq.mpr j
  have D : ((l0.length : Int) != (l1.length : Int)) = false := bne_eq_false_iff_eq.mpr j
  have G : (l0.length == l1.length) = true := by first | simpa using j | (simp at j ⊢; omega)
  clear j
  have H' := Aside0.mk H
  clear H
  go_enter Try.func8, Try.ntmps8
  go_wp2
  repeat (go_quiet (fail); try go_wp2)
  go_loopg [5] k (fun kq Q w' => ∃ (a : Int), Q = .int .i64 a ∧ Aside0 (lapidaryref09_Same.l0 kq l0 l1 a = some r) ∧ Aside0 (kq ≤ k) ∧ Drawn0 w w')
  case atStart => exact ⟨(0), sd, H', ⟨Nat.le_refl _⟩, by repeat (first | exact Drawn0.refl _ | apply Drawn0.step)⟩
  case round =>
   clear H'
   try clear c1
   try clear j
   try clear B
   try clear D
   try clear G
   obtain ⟨a, rfl, HA, V, ⟨m1, rfl⟩⟩ := hrel
   cases gk with
   | zero => exact absurd HA.out (by simp [lapidaryref09_Same.l0])
   | succ k1 =>
    have H := HA.out
    clear HA
    simp only [lapidaryref09_Same.l0] at H
    by_cases M : a < (l0.length : Int)
    ·rw [if_pos M] at H
     have W : decide (a < (l0.length : Int)) = true := decide_eq_true M
     clear M
     by_cases X : 0 ≤ a
     ·rw [if_pos X] at H
      have F : decide (0 ≤ a) = true := decide_eq_true X
      clear X
      by_cases E : a < (l1.length : Int)
      ·rw [if_pos E] at H
       have K : decide (a < (l1.length : Int)) = true := decide_eq_true E
       clear E
       by_cases N : (!(((rd_T43 l0 a).f0) == ((rd_T43 l1 a).f0)) || (!((((rd_T43 l0 a).f1).toList) == (((rd_T43 l1 a).f1).toList)) || (!(((rd_T43 l0 a).f2) == ((rd_T43 l1 a).f2)) || (!(((rd_T43 l0 a).f3) == ((rd_T43 l1 a).f3)) || (!(((rd_T43 l0 a).f4) == ((rd_T43 l1 a).f4)) || (!(((rd_T43 l0 a).f5) == ((rd_T43 l1 a).f5)))))))) = true
       ·rw [if_pos N] at H
        have Y : (!(((rd_T43 l0 a).f0) == ((rd_T43 l1 a).f0)) || (!((((rd_T43 l0 a).f1).toList) == (((rd_T43 l1 a).f1).toList)) || (!(((rd_T43 l0 a).f2) == ((rd_T43 l1 a).f2)) || (!(((rd_T43 l0 a).f3) == ((rd_T43 l1 a).f3)) || (!(((rd_T43 l0 a).f4) == ((rd_T43 l1 a).f4)) || (!(((rd_T43 l0 a).f5) == ((rd_T43 l1 a).f5)))))))) = true := N
        clear N
        obtain rfl := Option.some.inj H
        have b : 0 ≤ (a : Int) := of_decide_eq_true asm
        have c : a < (l0.length : Int) := of_decide_eq_true asm
        obtain ⟨I, l, m, n, o, p, q, s⟩ := at_T43 O.out a b c
        cases l
        replace b := eq_true b
        replace c := eq_true c
        have d : 0 ≤ (a : Int) := of_decide_eq_true asm
        have i : a < (l1.length : Int) := of_decide_eq_true asm
        obtain ⟨J, t, u, v, x, y, z, A⟩ := at_T43 U.out a d i
        cases t
        replace d := eq_true d
        replace i := eq_true i
        go_wp2
        repeat (go_quiet (fail); try go_wp2)
        go_ret
        exact ⟨sd, by repeat (first | exact Drawn0.refl _ | apply Drawn0.step)⟩
       ·rw [if_neg N] at H
        have Y : (!(((rd_T43 l0 a).f0) == ((rd_T43 l1 a).f0)) || (!((((rd_T43 l0 a).f1).toList) == (((rd_T43 l1 a).f1).toList)) || (!(((rd_T43 l0 a).f2) == ((rd_T43 l1 a).f2)) || (!(((rd_T43 l0 a).f3) == ((rd_T43 l1 a).f3)) || (!(((rd_T43 l0 a).f4) == ((rd_T43 l1 a).f4)) || (!(((rd_T43 l0 a).f5) == ((rd_T43 l1 a).f5)))))))) = false := by simpa using N
        clear N
        have H' := Aside0.mk H
        clear H
        have b : 0 ≤ (a : Int) := of_decide_eq_true asm
        have c : a < (l0.length : Int) := of_decide_eq_true asm
        obtain ⟨I, l, m, n, o, p, q, s⟩ := at_T43 O.out a b c
        cases l
        replace b := eq_true b
        replace c := eq_true c
        have d : 0 ≤ (a : Int) := of_decide_eq_true asm
        have i : a < (l1.length : Int) := of_decide_eq_true asm
        obtain ⟨J, t, u, v, x, y, z, A⟩ := at_T43 U.out a d i
        cases t
        replace d := eq_true d
        replace i := eq_true i
        go_wp2
        repeat (go_quiet (fail); try go_wp2)
        go_roundg k1
        case measure => have := V.out; omega
        case rel => exact ⟨(wrap64 (a + 1)), sd, H', ⟨by have := V.out; omega⟩, by repeat (first | exact Drawn0.refl _ | apply Drawn0.step)⟩
      ·rw [if_neg E] at H
       exact absurd H (by simp)
     ·rw [if_neg X] at H
      exact absurd H (by simp)
    ·rw [if_neg M] at H
     have W : decide (a < (l0.length : Int)) = false := decide_eq_false M
     clear M
     obtain rfl := Option.some.inj H
     go_wp2
     repeat (go_quiet (fail); try go_wp2)
     go_ret
     exact ⟨sd, by repeat (first | exact Drawn0.refl _ | apply Drawn0.step)⟩
 ·rw [if_neg j] at H
  have B : ((l0.length : Int) == (l1.length : Int)) = false := beq_eq_false_iff_ne.mpr j
  have D : ((l0.length : Int) != (l1.length : Int)) = true := bne_iff_ne.mpr j
  have G : (l0.length == l1.length) = false := by first | simpa using j | (simp at j ⊢; omega)
  obtain rfl := Option.some.inj H
  go_enter Try.func8, Try.ntmps8
  go_wp2
  repeat (go_quiet (fail); try go_wp2)
  go_ret
  exact ⟨sd, by repeat (first | exact Drawn0.refl _ | apply Drawn0.step)⟩
def lapidarylaw09_taken.l0 : Nat → List (S29) → List (S43) → Int → Option ((List (S43)))
 | 0, _, _, _ => none
 | k + 1, x0, x3, x4 => if x4 < (x0.length : Int) then (if 0 ≤ x4 then (if x3.length < 2513169434916 then (lapidarylaw09_taken.l0 k x0 (x3 ++ [(⟨(rd_T29 x0 x4).f0, (rd_T29 x0 x4).f1, (rd_T29 x0 x4).f2, (rd_T29 x0 x4).f3, (rd_T29 x0 x4).f4, (rd_T29 x0 x4).f5⟩ : S43)]) (wrap64 (x4 + 1))) else (none)) else (none)) else (some x3)
def lapidarylaw09_taken.f (k : Nat) (l0 : List (S29)) : Option ((List (S43))) := lapidarylaw09_taken.l0 k l0 ([] : List (S43)) 0
def lapidarylaw09_taken.T5 : Bool × List (List Nat × List Nat) := (true, [([], []), ([], []), ([], []), ([1, 2], [1, 2]), ([3], [3]), ([4], [4]), ([], []), ([], []), ([6, 7], [6, 7]), ([8], [8]), ([9], [9]), ([], []), ([], []), ([11, 12], [11, 12]), ([13], [13]), ([14], [14]), ([], []), ([], []), ([16, 17], [16, 17]), ([18], [18]), ([19], [19]), ([], []), ([], []), ([21, 22], [21, 22]), ([23], [23]), ([24], [24]), ([], []), ([], []), ([26, 27], [26, 27]), ([28], [28]), ([29], [29]), ([5, 10, 15, 20, 25, 30], [5, 10, 15, 20, 25, 30]), ([31], [31]), ([0, 32], [0, 32]), ([33, 33, 0, 1, 2, 3, 4, 5, 6, 7, 8, 9, 10, 11, 12, 13, 14, 15, 16, 17, 18, 19, 20, 21, 22, 23, 24, 25, 26, 27, 28, 29, 30, 31, 32, 33], [0, 33])])
def lapidarylaw09_taken.B5 : List Nat := [0, 0, 0, 6, 14, 30, 0, 0, 192, 448, 960, 0, 0, 6144, 14336, 30720, 0, 0, 196608, 458752, 983040, 0, 0, 6291456, 14680064, 31457280, 0, 0, 201326592, 469762048, 1006632960, 2147483646, 4294967294, 8589934591, 17179869183]
theorem lapidarylaw09_taken.tab5 : rtab .any (opsOf Try.f9 5) = lapidarylaw09_taken.T5 := by kernel_rfl
theorem lapidarylaw09_taken.bits5 : waitsOk lapidarylaw09_taken.T5.2 lapidarylaw09_taken.B5 = true := by kernel_rfl
theorem lapidarylaw09_taken.calls (k : Nat) (A0 : Option Addr) (c0 : Nat) (l0 : List (S29)) (r : List (S43)) (w : World) (hr0 : Kd.C k29 w A0 l0.length l0) (hc0 : l0.length ≤ c0) (h : lapidarylaw09_taken.f k l0 = some r) :
  Calls Try.prog 9 #[.slice A0 l0.length c0] w fun e w' => ∃ v0_ : Value, e = .returned (v0_) ∧ Kd.R k43 43 w' w.heap.size (fun _ => True) v0_ r ∧ Below w.heap.size w w' := by
 have hu43 := Try.underlying43
 have e2 := Aside0.mk hr0
 have i0 := Aside0.mk hc0
 clear hr0 hc0
 have HB := Aside0.mk (Below.refl w.heap.size w)
 have H : (lapidarylaw09_taken.l0 k l0 ([] : List (S43)) 0) = some r := h
 clear h
 have H' := Aside0.mk H
 clear H
 go_enter Try.func9, Try.ntmps9
 go_wp2
 go_loopg [3, 4] k (fun kq v3 v4 w' => ∃ (e0 : List (S43)) (a : Int), v4 = .int .i64 a ∧ Aside0 (lapidarylaw09_taken.l0 kq l0 e0 a = some r) ∧ Aside0 (kq ≤ k) ∧ Aside0 (Kd.R k43 43 w' w.heap.size (fun _ => True) v3 e0) ∧ Aside0 (Below w.heap.size w w'))
 case atStart => exact ⟨(([] : List (S43))), (0), sd, H', ⟨Nat.le_refl _⟩, ⟨nl⟩, ⟨bw⟩⟩
 case round =>
  clear H'
  obtain ⟨e0, a, rfl, HA, g9, e1, HB⟩ := hrel
  cases gk with
  | zero => exact absurd HA.out (by simp [lapidarylaw09_taken.l0])
  | succ k1 =>
   have H := HA.out
   clear HA
   simp only [lapidarylaw09_taken.l0] at H
   by_cases c2 : a < (l0.length : Int)
   ·rw [if_pos c2] at H
    have h0 : decide (a < (l0.length : Int)) = true := decide_eq_true c2
    clear c2
    by_cases c3 : 0 ≤ a
    ·rw [if_pos c3] at H
     have h8 : decide (0 ≤ a) = true := decide_eq_true c3
     clear c3
     by_cases c4 : e0.length < 2513169434916
     ·rw [if_pos c4] at H
      have h1 := Aside0.mk c4
      clear c4
      obtain ⟨g1, d9⟩ : ∃ y_ : List (S43), y_ = (e0 ++ [(⟨(rd_T29 l0 a).f0, (rd_T29 l0 a).f1, (rd_T29 l0 a).f2, (rd_T29 l0 a).f3, (rd_T29 l0 a).f4, (rd_T29 l0 a).f5⟩ : S43)]) := ⟨_, rfl⟩
      replace H : (lapidarylaw09_taken.l0 k1 l0 g1 (wrap64 (a + 1))) = some r := by first | (rw [d9]; with_reducible exact H) | (have H2_ := (Option.bind_some _ _).symm.trans H; rw [d9]; with_reducible exact H2_) | (have H2_ := (Option.bind_some _ _).symm.trans H; with_reducible exact H2_) | with_reducible exact H | (rw [d9]; exact H) | exact H
      have g2 := Aside0.mk d9
      clear d9
      have H' := Aside0.mk H
      clear H
      try go_wp2
      replace e1 := Aside0.mk (Kd.R_drew e1.out)
      replace HB := Aside0.mk (below_drew1 HB.out)
      have e3 : 0 ≤ (a : Int) := of_decide_eq_true asm
      have e4 : a < (l0.length : Int) := of_decide_eq_true asm
      obtain ⟨b, h2, T, a0, a1, a2, a3, a4⟩ := at_T29 e2.out a e3 e4
      have c := a4
      have d := a3
      have i := a2
      have j := a1
      have l := a0
      have m := T
      cases h2
      replace T := (HB.out.cell (World.block_lt_of_cell? w _ T)).trans T
      replace a0 := (HB.out.cell (World.block_lt_of_cell? w _ a0)).trans a0
      replace a1 := (HB.out.cell (World.block_lt_of_cell? w _ a1)).trans a1
      replace a2 := (HB.out.cell (World.block_lt_of_cell? w _ a2)).trans a2
      replace a3 := (HB.out.cell (World.block_lt_of_cell? w _ a3)).trans a3
      replace a4 := (HB.out.cell (World.block_lt_of_cell? w _ a4)).trans a4
      replace e3 := eq_true e3
      replace e4 := eq_true e4
      have e5 : 0 ≤ (a : Int) := of_decide_eq_true asm
      have e6 : a < (l0.length : Int) := of_decide_eq_true asm
      obtain ⟨g3, h3, a5, a6, a7, a8, a9, b0⟩ := at_T29 e2.out a e5 e6
      have n := b0
      have o := a9
      have p := a8
      have q := a7
      have s := a6
      have t := a5
      obtain rfl : b = g3 := (by injection h3)
      replace a5 := (HB.out.cell (World.block_lt_of_cell? w _ a5)).trans a5
      replace a6 := (HB.out.cell (World.block_lt_of_cell? w _ a6)).trans a6
      replace a7 := (HB.out.cell (World.block_lt_of_cell? w _ a7)).trans a7
      replace a8 := (HB.out.cell (World.block_lt_of_cell? w _ a8)).trans a8
      replace a9 := (HB.out.cell (World.block_lt_of_cell? w _ a9)).trans a9
      replace b0 := (HB.out.cell (World.block_lt_of_cell? w _ b0)).trans b0
      replace e5 := eq_true e5
      replace e6 := eq_true e6
      have e7 : 0 ≤ (a : Int) := of_decide_eq_true asm
      have e8 : a < (l0.length : Int) := of_decide_eq_true asm
      obtain ⟨g4, h4, b1, b2, b3, b4, b5, b6⟩ := at_T29 e2.out a e7 e8
      have u := b6
      have x := b5
      have y := b4
      have z := b3
      have A := b2
      have B := b1
      obtain rfl : b = g4 := (by injection h4)
      replace b1 := (HB.out.cell (World.block_lt_of_cell? w _ b1)).trans b1
      replace b2 := (HB.out.cell (World.block_lt_of_cell? w _ b2)).trans b2
      replace b3 := (HB.out.cell (World.block_lt_of_cell? w _ b3)).trans b3
      replace b4 := (HB.out.cell (World.block_lt_of_cell? w _ b4)).trans b4
      replace b5 := (HB.out.cell (World.block_lt_of_cell? w _ b5)).trans b5
      replace b6 := (HB.out.cell (World.block_lt_of_cell? w _ b6)).trans b6
      replace e7 := eq_true e7
      replace e8 := eq_true e8
      have e9 : 0 ≤ (a : Int) := of_decide_eq_true asm
      have f6 : a < (l0.length : Int) := of_decide_eq_true asm
      obtain ⟨g5, h5, b7, b8, b9, c1, c5, c6⟩ := at_T29 e2.out a e9 f6
      have D := c6
      have G := c5
      have I := c1
      have J := b9
      have M := b8
      have N := b7
      obtain rfl : b = g5 := (by injection h5)
      replace b7 := (HB.out.cell (World.block_lt_of_cell? w _ b7)).trans b7
      replace b8 := (HB.out.cell (World.block_lt_of_cell? w _ b8)).trans b8
      replace b9 := (HB.out.cell (World.block_lt_of_cell? w _ b9)).trans b9
      replace c1 := (HB.out.cell (World.block_lt_of_cell? w _ c1)).trans c1
      replace c5 := (HB.out.cell (World.block_lt_of_cell? w _ c5)).trans c5
      replace c6 := (HB.out.cell (World.block_lt_of_cell? w _ c6)).trans c6
      replace e9 := eq_true e9
      replace f6 := eq_true f6
      have f7 : 0 ≤ (a : Int) := of_decide_eq_true asm
      have f8 : a < (l0.length : Int) := of_decide_eq_true asm
      obtain ⟨g6, h6, c7, c8, c9, d0, d1, d2⟩ := at_T29 e2.out a f7 f8
      have O := d2
      have U := d1
      have V := d0
      have W := c9
      have Y := c8
      have X := c7
      obtain rfl : b = g6 := (by injection h6)
      replace c7 := (HB.out.cell (World.block_lt_of_cell? w _ c7)).trans c7
      replace c8 := (HB.out.cell (World.block_lt_of_cell? w _ c8)).trans c8
      replace c9 := (HB.out.cell (World.block_lt_of_cell? w _ c9)).trans c9
      replace d0 := (HB.out.cell (World.block_lt_of_cell? w _ d0)).trans d0
      replace d1 := (HB.out.cell (World.block_lt_of_cell? w _ d1)).trans d1
      replace d2 := (HB.out.cell (World.block_lt_of_cell? w _ d2)).trans d2
      replace f7 := eq_true f7
      replace f8 := eq_true f8
      have f9 : 0 ≤ (a : Int) := of_decide_eq_true asm
      have g0 : a < (l0.length : Int) := of_decide_eq_true asm
      obtain ⟨g7, h7, d3, d4, d5, d6, d7, d8⟩ := at_T29 e2.out a f9 g0
      have E := d8
      have F := d7
      have L := d6
      have P := d5
      have Q := d4
      have S := d3
      obtain rfl : b = g7 := (by injection h7)
      replace d3 := (HB.out.cell (World.block_lt_of_cell? w _ d3)).trans d3
      replace d4 := (HB.out.cell (World.block_lt_of_cell? w _ d4)).trans d4
      replace d5 := (HB.out.cell (World.block_lt_of_cell? w _ d5)).trans d5
      replace d6 := (HB.out.cell (World.block_lt_of_cell? w _ d6)).trans d6
      replace d7 := (HB.out.cell (World.block_lt_of_cell? w _ d7)).trans d7
      replace d8 := (HB.out.cell (World.block_lt_of_cell? w _ d8)).trans d8
      replace f9 := eq_true f9
      replace g0 := eq_true g0
      refine st 35 (fun w' => w'.cell? (b.add ((a).toNat * 6)) = some (.int .i64 ((rd_T29 l0 a).f0)) ∧ w'.cell? ⟨(b.add ((a).toNat * 6)).block, (b.add ((a).toNat * 6)).off + 1, none⟩ = some (.string ((rd_T29 l0 a).f1)) ∧ w'.cell? ⟨(b.add ((a).toNat * 6)).block, (b.add ((a).toNat * 6)).off + 2, none⟩ = some (.int .i64 ((rd_T29 l0 a).f2)) ∧ w'.cell? ⟨(b.add ((a).toNat * 6)).block, (b.add ((a).toNat * 6)).off + 3, none⟩ = some (.int .i64 ((rd_T29 l0 a).f3)) ∧ w'.cell? ⟨(b.add ((a).toNat * 6)).block, (b.add ((a).toNat * 6)).off + 4, none⟩ = some (.int .i64 ((rd_T29 l0 a).f4)) ∧ w'.cell? ⟨(b.add ((a).toNat * 6)).block, (b.add ((a).toNat * 6)).off + 5, none⟩ = some (.bool ((rd_T29 l0 a).f5)) ∧ w'.cell? (b.add ((a).toNat * 6)) = some (.int .i64 ((rd_T29 l0 a).f0)) ∧ w'.cell? ⟨(b.add ((a).toNat * 6)).block, (b.add ((a).toNat * 6)).off + 1, none⟩ = some (.string ((rd_T29 l0 a).f1)) ∧ w'.cell? ⟨(b.add ((a).toNat * 6)).block, (b.add ((a).toNat * 6)).off + 2, none⟩ = some (.int .i64 ((rd_T29 l0 a).f2)) ∧ w'.cell? ⟨(b.add ((a).toNat * 6)).block, (b.add ((a).toNat * 6)).off + 3, none⟩ = some (.int .i64 ((rd_T29 l0 a).f3)) ∧ w'.cell? ⟨(b.add ((a).toNat * 6)).block, (b.add ((a).toNat * 6)).off + 4, none⟩ = some (.int .i64 ((rd_T29 l0 a).f4)) ∧ w'.cell? ⟨(b.add ((a).toNat * 6)).block, (b.add ((a).toNat * 6)).off + 5, none⟩ = some (.bool ((rd_T29 l0 a).f5)) ∧ w'.cell? (b.add ((a).toNat * 6)) = some (.int .i64 ((rd_T29 l0 a).f0)) ∧ w'.cell? ⟨(b.add ((a).toNat * 6)).block, (b.add ((a).toNat * 6)).off + 1, none⟩ = some (.string ((rd_T29 l0 a).f1)) ∧ w'.cell? ⟨(b.add ((a).toNat * 6)).block, (b.add ((a).toNat * 6)).off + 2, none⟩ = some (.int .i64 ((rd_T29 l0 a).f2)) ∧ w'.cell? ⟨(b.add ((a).toNat * 6)).block, (b.add ((a).toNat * 6)).off + 3, none⟩ = some (.int .i64 ((rd_T29 l0 a).f3)) ∧ w'.cell? ⟨(b.add ((a).toNat * 6)).block, (b.add ((a).toNat * 6)).off + 4, none⟩ = some (.int .i64 ((rd_T29 l0 a).f4)) ∧ w'.cell? ⟨(b.add ((a).toNat * 6)).block, (b.add ((a).toNat * 6)).off + 5, none⟩ = some (.bool ((rd_T29 l0 a).f5)) ∧ w'.cell? (b.add ((a).toNat * 6)) = some (.int .i64 ((rd_T29 l0 a).f0)) ∧ w'.cell? ⟨(b.add ((a).toNat * 6)).block, (b.add ((a).toNat * 6)).off + 1, none⟩ = some (.string ((rd_T29 l0 a).f1)) ∧ w'.cell? ⟨(b.add ((a).toNat * 6)).block, (b.add ((a).toNat * 6)).off + 2, none⟩ = some (.int .i64 ((rd_T29 l0 a).f2)) ∧ w'.cell? ⟨(b.add ((a).toNat * 6)).block, (b.add ((a).toNat * 6)).off + 3, none⟩ = some (.int .i64 ((rd_T29 l0 a).f3)) ∧ w'.cell? ⟨(b.add ((a).toNat * 6)).block, (b.add ((a).toNat * 6)).off + 4, none⟩ = some (.int .i64 ((rd_T29 l0 a).f4)) ∧ w'.cell? ⟨(b.add ((a).toNat * 6)).block, (b.add ((a).toNat * 6)).off + 5, none⟩ = some (.bool ((rd_T29 l0 a).f5)) ∧ w'.cell? (b.add ((a).toNat * 6)) = some (.int .i64 ((rd_T29 l0 a).f0)) ∧ w'.cell? ⟨(b.add ((a).toNat * 6)).block, (b.add ((a).toNat * 6)).off + 1, none⟩ = some (.string ((rd_T29 l0 a).f1)) ∧ w'.cell? ⟨(b.add ((a).toNat * 6)).block, (b.add ((a).toNat * 6)).off + 2, none⟩ = some (.int .i64 ((rd_T29 l0 a).f2)) ∧ w'.cell? ⟨(b.add ((a).toNat * 6)).block, (b.add ((a).toNat * 6)).off + 3, none⟩ = some (.int .i64 ((rd_T29 l0 a).f3)) ∧ w'.cell? ⟨(b.add ((a).toNat * 6)).block, (b.add ((a).toNat * 6)).off + 4, none⟩ = some (.int .i64 ((rd_T29 l0 a).f4)) ∧ w'.cell? ⟨(b.add ((a).toNat * 6)).block, (b.add ((a).toNat * 6)).off + 5, none⟩ = some (.bool ((rd_T29 l0 a).f5)) ∧ w'.cell? (b.add ((a).toNat * 6)) = some (.int .i64 ((rd_T29 l0 a).f0)) ∧ w'.cell? ⟨(b.add ((a).toNat * 6)).block, (b.add ((a).toNat * 6)).off + 1, none⟩ = some (.string ((rd_T29 l0 a).f1)) ∧ w'.cell? ⟨(b.add ((a).toNat * 6)).block, (b.add ((a).toNat * 6)).off + 2, none⟩ = some (.int .i64 ((rd_T29 l0 a).f2)) ∧ w'.cell? ⟨(b.add ((a).toNat * 6)).block, (b.add ((a).toNat * 6)).off + 3, none⟩ = some (.int .i64 ((rd_T29 l0 a).f3)) ∧ w'.cell? ⟨(b.add ((a).toNat * 6)).block, (b.add ((a).toNat * 6)).off + 4, none⟩ = some (.int .i64 ((rd_T29 l0 a).f4)) ∧ w'.cell? ⟨(b.add ((a).toNat * 6)).block, (b.add ((a).toNat * 6)).off + 5, none⟩ = some (.bool ((rd_T29 l0 a).f5))) [] ⟨((HB.out.cell (World.block_lt_of_cell? w _ m)).trans m), ((HB.out.cell (World.block_lt_of_cell? w _ l)).trans l), ((HB.out.cell (World.block_lt_of_cell? w _ j)).trans j), ((HB.out.cell (World.block_lt_of_cell? w _ i)).trans i), ((HB.out.cell (World.block_lt_of_cell? w _ d)).trans d), ((HB.out.cell (World.block_lt_of_cell? w _ c)).trans c), ((HB.out.cell (World.block_lt_of_cell? w _ t)).trans t), ((HB.out.cell (World.block_lt_of_cell? w _ s)).trans s), ((HB.out.cell (World.block_lt_of_cell? w _ q)).trans q), ((HB.out.cell (World.block_lt_of_cell? w _ p)).trans p), ((HB.out.cell (World.block_lt_of_cell? w _ o)).trans o), ((HB.out.cell (World.block_lt_of_cell? w _ n)).trans n), ((HB.out.cell (World.block_lt_of_cell? w _ B)).trans B), ((HB.out.cell (World.block_lt_of_cell? w _ A)).trans A), ((HB.out.cell (World.block_lt_of_cell? w _ z)).trans z), ((HB.out.cell (World.block_lt_of_cell? w _ y)).trans y), ((HB.out.cell (World.block_lt_of_cell? w _ x)).trans x), ((HB.out.cell (World.block_lt_of_cell? w _ u)).trans u), ((HB.out.cell (World.block_lt_of_cell? w _ N)).trans N), ((HB.out.cell (World.block_lt_of_cell? w _ M)).trans M), ((HB.out.cell (World.block_lt_of_cell? w _ J)).trans J), ((HB.out.cell (World.block_lt_of_cell? w _ I)).trans I), ((HB.out.cell (World.block_lt_of_cell? w _ G)).trans G), ((HB.out.cell (World.block_lt_of_cell? w _ D)).trans D), ((HB.out.cell (World.block_lt_of_cell? w _ X)).trans X), ((HB.out.cell (World.block_lt_of_cell? w _ Y)).trans Y), ((HB.out.cell (World.block_lt_of_cell? w _ W)).trans W), ((HB.out.cell (World.block_lt_of_cell? w _ V)).trans V), ((HB.out.cell (World.block_lt_of_cell? w _ U)).trans U), ((HB.out.cell (World.block_lt_of_cell? w _ O)).trans O), ((HB.out.cell (World.block_lt_of_cell? w _ S)).trans S), ((HB.out.cell (World.block_lt_of_cell? w _ Q)).trans Q), ((HB.out.cell (World.block_lt_of_cell? w _ P)).trans P), ((HB.out.cell (World.block_lt_of_cell? w _ L)).trans L), ((HB.out.cell (World.block_lt_of_cell? w _ F)).trans F), ((HB.out.cell (World.block_lt_of_cell? w _ E)).trans E)⟩ (fun hHeld => ?_); refine with_tabW lapidarylaw09_taken.tab5 lapidarylaw09_taken.bits5 (fun HT_ HW_ => ?_)
      generalize wr.drew = w5 at e1 HB T a0 a1 a2 a3 a4 a5 a6 a7 a8 a9 b0 b1 b2 b3 b4 b5 b6 b7 b8 b9 c1 c5 c6 c7 c8 c9 d0 d1 d2 d3 d4 d5 d6 d7 d8 hHeld ⊢
      refine pu HT_ 0 (some 11) ?_
      refine pu HT_ 1 (some 12) ?_
      refine pu HT_ 2 (some 13) ?_
      refine pu HT_ 3 (some 14) ?_
      refine pu HT_ 4 (some 15) ?_
      refine pu HT_ 6 (some 17) ?_
      refine pu HT_ 7 (some 18) ?_
      refine pu HT_ 8 (some 19) ?_
      refine pu HT_ 9 (some 20) ?_
      refine pu HT_ 11 (some 22) ?_
      refine pu HT_ 12 (some 23) ?_
      refine pu HT_ 13 (some 24) ?_
      refine pu HT_ 14 (some 25) ?_
      refine pu HT_ 16 (some 27) ?_
      refine pu HT_ 17 (some 28) ?_
      refine pu HT_ 18 (some 29) ?_
      refine pu HT_ 19 (some 30) ?_
      refine pu HT_ 21 (some 32) ?_
      refine pu HT_ 22 (some 33) ?_
      refine pu HT_ 23 (some 34) ?_
      refine pu HT_ 24 (some 35) ?_
      refine pu HT_ 26 (some 37) ?_
      refine pu HT_ 27 (some 38) ?_
      refine pu HT_ 28 (some 39) ?_
      refine pu HT_ 29 (some 40) ?_
      refine tkz HT_ HW_ 5 (some 16) hHeld ?_
      refine tkz HT_ HW_ 10 (some 21) hHeld ?_
      refine tkz HT_ HW_ 15 (some 26) hHeld ?_
      refine tkz HT_ HW_ 20 (some 31) hHeld ?_
      refine tkz HT_ HW_ 25 (some 36) hHeld ?_
      refine tkz HT_ HW_ 30 (some 41) hHeld ?_
      refine pu HT_ 31 (some 42) ?_
      refine on HT_ 32 (some 43) fun K hK => ?_
      refine value_ (w1 := ?_) (v := ?_) (by rfl) rfl ?_ ?_
      rotate_left 2
      ·go_simp
       constructor
       ·rfl
       ·rfl
      refine hK.out _ _ ⟨(World.cell?_alloc_lt _ _ _ (World.block_lt_of_cell? _ _ (((HB.out.cell (World.block_lt_of_cell? w _ m)).trans m)))).trans (((HB.out.cell (World.block_lt_of_cell? w _ m)).trans m)), (World.cell?_alloc_lt _ _ _ (World.block_lt_of_cell? _ _ (((HB.out.cell (World.block_lt_of_cell? w _ l)).trans l)))).trans (((HB.out.cell (World.block_lt_of_cell? w _ l)).trans l)), (World.cell?_alloc_lt _ _ _ (World.block_lt_of_cell? _ _ (((HB.out.cell (World.block_lt_of_cell? w _ j)).trans j)))).trans (((HB.out.cell (World.block_lt_of_cell? w _ j)).trans j)), (World.cell?_alloc_lt _ _ _ (World.block_lt_of_cell? _ _ (((HB.out.cell (World.block_lt_of_cell? w _ i)).trans i)))).trans (((HB.out.cell (World.block_lt_of_cell? w _ i)).trans i)), (World.cell?_alloc_lt _ _ _ (World.block_lt_of_cell? _ _ (((HB.out.cell (World.block_lt_of_cell? w _ d)).trans d)))).trans (((HB.out.cell (World.block_lt_of_cell? w _ d)).trans d)), (World.cell?_alloc_lt _ _ _ (World.block_lt_of_cell? _ _ (((HB.out.cell (World.block_lt_of_cell? w _ c)).trans c)))).trans (((HB.out.cell (World.block_lt_of_cell? w _ c)).trans c)), (World.cell?_alloc_lt _ _ _ (World.block_lt_of_cell? _ _ (((HB.out.cell (World.block_lt_of_cell? w _ t)).trans t)))).trans (((HB.out.cell (World.block_lt_of_cell? w _ t)).trans t)), (World.cell?_alloc_lt _ _ _ (World.block_lt_of_cell? _ _ (((HB.out.cell (World.block_lt_of_cell? w _ s)).trans s)))).trans (((HB.out.cell (World.block_lt_of_cell? w _ s)).trans s)), (World.cell?_alloc_lt _ _ _ (World.block_lt_of_cell? _ _ (((HB.out.cell (World.block_lt_of_cell? w _ q)).trans q)))).trans (((HB.out.cell (World.block_lt_of_cell? w _ q)).trans q)), (World.cell?_alloc_lt _ _ _ (World.block_lt_of_cell? _ _ (((HB.out.cell (World.block_lt_of_cell? w _ p)).trans p)))).trans (((HB.out.cell (World.block_lt_of_cell? w _ p)).trans p)), (World.cell?_alloc_lt _ _ _ (World.block_lt_of_cell? _ _ (((HB.out.cell (World.block_lt_of_cell? w _ o)).trans o)))).trans (((HB.out.cell (World.block_lt_of_cell? w _ o)).trans o)), (World.cell?_alloc_lt _ _ _ (World.block_lt_of_cell? _ _ (((HB.out.cell (World.block_lt_of_cell? w _ n)).trans n)))).trans (((HB.out.cell (World.block_lt_of_cell? w _ n)).trans n)), (World.cell?_alloc_lt _ _ _ (World.block_lt_of_cell? _ _ (((HB.out.cell (World.block_lt_of_cell? w _ B)).trans B)))).trans (((HB.out.cell (World.block_lt_of_cell? w _ B)).trans B)), (World.cell?_alloc_lt _ _ _ (World.block_lt_of_cell? _ _ (((HB.out.cell (World.block_lt_of_cell? w _ A)).trans A)))).trans (((HB.out.cell (World.block_lt_of_cell? w _ A)).trans A)), (World.cell?_alloc_lt _ _ _ (World.block_lt_of_cell? _ _ (((HB.out.cell (World.block_lt_of_cell? w _ z)).trans z)))).trans (((HB.out.cell (World.block_lt_of_cell? w _ z)).trans z)), (World.cell?_alloc_lt _ _ _ (World.block_lt_of_cell? _ _ (((HB.out.cell (World.block_lt_of_cell? w _ y)).trans y)))).trans (((HB.out.cell (World.block_lt_of_cell? w _ y)).trans y)), (World.cell?_alloc_lt _ _ _ (World.block_lt_of_cell? _ _ (((HB.out.cell (World.block_lt_of_cell? w _ x)).trans x)))).trans (((HB.out.cell (World.block_lt_of_cell? w _ x)).trans x)), (World.cell?_alloc_lt _ _ _ (World.block_lt_of_cell? _ _ (((HB.out.cell (World.block_lt_of_cell? w _ u)).trans u)))).trans (((HB.out.cell (World.block_lt_of_cell? w _ u)).trans u)), (World.cell?_alloc_lt _ _ _ (World.block_lt_of_cell? _ _ (((HB.out.cell (World.block_lt_of_cell? w _ N)).trans N)))).trans (((HB.out.cell (World.block_lt_of_cell? w _ N)).trans N)), (World.cell?_alloc_lt _ _ _ (World.block_lt_of_cell? _ _ (((HB.out.cell (World.block_lt_of_cell? w _ M)).trans M)))).trans (((HB.out.cell (World.block_lt_of_cell? w _ M)).trans M)), (World.cell?_alloc_lt _ _ _ (World.block_lt_of_cell? _ _ (((HB.out.cell (World.block_lt_of_cell? w _ J)).trans J)))).trans (((HB.out.cell (World.block_lt_of_cell? w _ J)).trans J)), (World.cell?_alloc_lt _ _ _ (World.block_lt_of_cell? _ _ (((HB.out.cell (World.block_lt_of_cell? w _ I)).trans I)))).trans (((HB.out.cell (World.block_lt_of_cell? w _ I)).trans I)), (World.cell?_alloc_lt _ _ _ (World.block_lt_of_cell? _ _ (((HB.out.cell (World.block_lt_of_cell? w _ G)).trans G)))).trans (((HB.out.cell (World.block_lt_of_cell? w _ G)).trans G)), (World.cell?_alloc_lt _ _ _ (World.block_lt_of_cell? _ _ (((HB.out.cell (World.block_lt_of_cell? w _ D)).trans D)))).trans (((HB.out.cell (World.block_lt_of_cell? w _ D)).trans D)), (World.cell?_alloc_lt _ _ _ (World.block_lt_of_cell? _ _ (((HB.out.cell (World.block_lt_of_cell? w _ X)).trans X)))).trans (((HB.out.cell (World.block_lt_of_cell? w _ X)).trans X)), (World.cell?_alloc_lt _ _ _ (World.block_lt_of_cell? _ _ (((HB.out.cell (World.block_lt_of_cell? w _ Y)).trans Y)))).trans (((HB.out.cell (World.block_lt_of_cell? w _ Y)).trans Y)), (World.cell?_alloc_lt _ _ _ (World.block_lt_of_cell? _ _ (((HB.out.cell (World.block_lt_of_cell? w _ W)).trans W)))).trans (((HB.out.cell (World.block_lt_of_cell? w _ W)).trans W)), (World.cell?_alloc_lt _ _ _ (World.block_lt_of_cell? _ _ (((HB.out.cell (World.block_lt_of_cell? w _ V)).trans V)))).trans (((HB.out.cell (World.block_lt_of_cell? w _ V)).trans V)), (World.cell?_alloc_lt _ _ _ (World.block_lt_of_cell? _ _ (((HB.out.cell (World.block_lt_of_cell? w _ U)).trans U)))).trans (((HB.out.cell (World.block_lt_of_cell? w _ U)).trans U)), (World.cell?_alloc_lt _ _ _ (World.block_lt_of_cell? _ _ (((HB.out.cell (World.block_lt_of_cell? w _ O)).trans O)))).trans (((HB.out.cell (World.block_lt_of_cell? w _ O)).trans O)), (World.cell?_alloc_lt _ _ _ (World.block_lt_of_cell? _ _ (((HB.out.cell (World.block_lt_of_cell? w _ S)).trans S)))).trans (((HB.out.cell (World.block_lt_of_cell? w _ S)).trans S)), (World.cell?_alloc_lt _ _ _ (World.block_lt_of_cell? _ _ (((HB.out.cell (World.block_lt_of_cell? w _ Q)).trans Q)))).trans (((HB.out.cell (World.block_lt_of_cell? w _ Q)).trans Q)), (World.cell?_alloc_lt _ _ _ (World.block_lt_of_cell? _ _ (((HB.out.cell (World.block_lt_of_cell? w _ P)).trans P)))).trans (((HB.out.cell (World.block_lt_of_cell? w _ P)).trans P)), (World.cell?_alloc_lt _ _ _ (World.block_lt_of_cell? _ _ (((HB.out.cell (World.block_lt_of_cell? w _ L)).trans L)))).trans (((HB.out.cell (World.block_lt_of_cell? w _ L)).trans L)), (World.cell?_alloc_lt _ _ _ (World.block_lt_of_cell? _ _ (((HB.out.cell (World.block_lt_of_cell? w _ F)).trans F)))).trans (((HB.out.cell (World.block_lt_of_cell? w _ F)).trans F)), (World.cell?_alloc_lt _ _ _ (World.block_lt_of_cell? _ _ (((HB.out.cell (World.block_lt_of_cell? w _ E)).trans E)))).trans (((HB.out.cell (World.block_lt_of_cell? w _ E)).trans E))⟩ (fun hHeld => ?_)
      clear hK K
      refine nm (some 43) ?_
      refine on HT_ 33 (some 44) fun K hK => ?_
      refine Kd.R_append_step k43 (w0 := w) w.heap.size (by rfl) (.tmp 11) (.tmp 43) 31 43 (.agg #[(.int .i64 0), (.string ⟨#[]⟩), (.int .i64 0), (.int .i64 0), (.int .i64 0), (.bool false)]) 56 rfl Try.underlying31 info43 rfl (by decide) (by omega) u3 e0 (⟨(rd_T29 l0 a).f0, (rd_T29 l0 a).f1, (rd_T29 l0 a).f2, (rd_T29 l0 a).f3, (rd_T29 l0 a).f4, (rd_T29 l0 a).f5⟩ : S43) [.int .i64 ((rd_T29 l0 a).f0), .string ((rd_T29 l0 a).f1), .int .i64 ((rd_T29 l0 a).f2), .int .i64 ((rd_T29 l0 a).f3), .int .i64 ((rd_T29 l0 a).f4), .bool ((rd_T29 l0 a).f5)] (fun _ => True) (fun _ => False) rfl rfl ?aP (fun _ hk => hk.elim) ?aF ?aO ?aB ?aS ?aL ?_
      (case aP => exact k43_mkM _ _ _ (⟨(rd_T29 l0 a).f0, (rd_T29 l0 a).f1, (rd_T29 l0 a).f2, (rd_T29 l0 a).f3, (rd_T29 l0 a).f4, (rd_T29 l0 a).f5⟩ : S43))
      (case aB => exact bw)
      (case aF => exact (fun _ _ => trivial))
      (case aO => exact (rb e1))
      (case aS => exact (sz HB))
      (case aL => have := h1.out; omega)
      intro h9 w6 ho hb hg hat
      rw [← g2.out] at ho
      have g8 := Aside0.mk ho
      replace HB := Aside0.mk hb
      clear e1
      clear ho hb hg hat
      refine hK.out _ _ ⟨((HB.out.cell (World.block_lt_of_cell? w _ m)).trans m), ((HB.out.cell (World.block_lt_of_cell? w _ l)).trans l), ((HB.out.cell (World.block_lt_of_cell? w _ j)).trans j), ((HB.out.cell (World.block_lt_of_cell? w _ i)).trans i), ((HB.out.cell (World.block_lt_of_cell? w _ d)).trans d), ((HB.out.cell (World.block_lt_of_cell? w _ c)).trans c), ((HB.out.cell (World.block_lt_of_cell? w _ t)).trans t), ((HB.out.cell (World.block_lt_of_cell? w _ s)).trans s), ((HB.out.cell (World.block_lt_of_cell? w _ q)).trans q), ((HB.out.cell (World.block_lt_of_cell? w _ p)).trans p), ((HB.out.cell (World.block_lt_of_cell? w _ o)).trans o), ((HB.out.cell (World.block_lt_of_cell? w _ n)).trans n), ((HB.out.cell (World.block_lt_of_cell? w _ B)).trans B), ((HB.out.cell (World.block_lt_of_cell? w _ A)).trans A), ((HB.out.cell (World.block_lt_of_cell? w _ z)).trans z), ((HB.out.cell (World.block_lt_of_cell? w _ y)).trans y), ((HB.out.cell (World.block_lt_of_cell? w _ x)).trans x), ((HB.out.cell (World.block_lt_of_cell? w _ u)).trans u), ((HB.out.cell (World.block_lt_of_cell? w _ N)).trans N), ((HB.out.cell (World.block_lt_of_cell? w _ M)).trans M), ((HB.out.cell (World.block_lt_of_cell? w _ J)).trans J), ((HB.out.cell (World.block_lt_of_cell? w _ I)).trans I), ((HB.out.cell (World.block_lt_of_cell? w _ G)).trans G), ((HB.out.cell (World.block_lt_of_cell? w _ D)).trans D), ((HB.out.cell (World.block_lt_of_cell? w _ X)).trans X), ((HB.out.cell (World.block_lt_of_cell? w _ Y)).trans Y), ((HB.out.cell (World.block_lt_of_cell? w _ W)).trans W), ((HB.out.cell (World.block_lt_of_cell? w _ V)).trans V), ((HB.out.cell (World.block_lt_of_cell? w _ U)).trans U), ((HB.out.cell (World.block_lt_of_cell? w _ O)).trans O), ((HB.out.cell (World.block_lt_of_cell? w _ S)).trans S), ((HB.out.cell (World.block_lt_of_cell? w _ Q)).trans Q), ((HB.out.cell (World.block_lt_of_cell? w _ P)).trans P), ((HB.out.cell (World.block_lt_of_cell? w _ L)).trans L), ((HB.out.cell (World.block_lt_of_cell? w _ F)).trans F), ((HB.out.cell (World.block_lt_of_cell? w _ E)).trans E)⟩ (fun hHeld => ?_)
      clear hK K
      refine nm (some 44) ?_
      refine pu HT_ 34 (some 3) ?_
      refine dn HT_ ?_
      try go_wp2
      go_roundg k1
      case measure => have := g9.out; omega
      case rel => exact ⟨(g1), (wrap64 (a + 1)), sd, H', ⟨by have := g9.out; omega⟩, ⟨rb g8⟩, ⟨bw⟩⟩
     ·rw [if_neg c4] at H
      exact absurd H (by simp)
    ·rw [if_neg c3] at H
     exact absurd H (by simp)
   ·rw [if_neg c2] at H
    have h0 : decide (a < (l0.length : Int)) = false := decide_eq_false c2
    clear c2
    obtain rfl := Option.some.inj H
    go_wp2
    go_ret
    exact ⟨_, er, rb e1, bw⟩
def lapidarylaw09_known.f (k : Nat)  : Option (Bool) := (lapidarylaw09_resolved.f (⟨#[124, 32, 97, 32, 124, 32, 97, 32, 58, 61, 32, 91, 58, 98, 32, 124, 32, 97, 32, 43, 32, 98, 32, 43, 32, 82, 111, 111, 116, 93]⟩ : ByteArray) false ([] : List ByteArray)).bind fun bt184 => (if bt184.2.2.2 = true then (if bt184.2.2.1 = 0 then ((lapidarylaw09_taken.f k bt184.1).bind fun t193 => ((lapidaryref09_Same.f k t193 (([(⟨6, (⟨#[97]⟩ : ByteArray), 3, 0, 0, true⟩ : S43), (⟨17, (⟨#[97]⟩ : ByteArray), 3, 1, 0, false⟩ : S43), (⟨21, (⟨#[98]⟩ : ByteArray), 3, 0, 0, false⟩ : S43), (⟨25, (⟨#[82, 111, 111, 116]⟩ : ByteArray), 5, 0, 0, false⟩ : S43)] : List (S43)))).bind fun t196 => (some t196))) else (some false)) else (some false))
theorem lapidarylaw09_known.calls (k : Nat)  (r : Bool) (w : World) (h : lapidarylaw09_known.f k  = some r) :
  Calls Try.prog 7 #[] w fun e w' => e = .returned (.bool r) ∧ Below w.heap.size w w' := by
 have hu43 := Try.underlying43
 have HB := Aside0.mk (Below.refl w.heap.size w)
 have H : ((lapidarylaw09_resolved.f (⟨#[124, 32, 97, 32, 124, 32, 97, 32, 58, 61, 32, 91, 58, 98, 32, 124, 32, 97, 32, 43, 32, 98, 32, 43, 32, 82, 111, 111, 116, 93]⟩ : ByteArray) false ([] : List ByteArray)).bind fun bt184 => (if bt184.2.2.2 = true then (if bt184.2.2.1 = 0 then ((lapidarylaw09_taken.f k bt184.1).bind fun m => ((lapidaryref09_Same.f k m (([(⟨6, (⟨#[97]⟩ : ByteArray), 3, 0, 0, true⟩ : S43), (⟨17, (⟨#[97]⟩ : ByteArray), 3, 1, 0, false⟩ : S43), (⟨21, (⟨#[98]⟩ : ByteArray), 3, 0, 0, false⟩ : S43), (⟨25, (⟨#[82, 111, 111, 116]⟩ : ByteArray), 5, 0, 0, false⟩ : S43)] : List (S43)))).bind fun n => (some n))) else (some false)) else (some false))) = some r := h
 clear h
 obtain ⟨⟨o, q, c, t⟩, I, H⟩ := bs H
 obtain ⟨u, l⟩ : ∃ y_ : List (S43), y_ = (([(⟨6, (⟨#[97]⟩ : ByteArray), 3, 0, 0, true⟩ : S43), (⟨17, (⟨#[97]⟩ : ByteArray), 3, 1, 0, false⟩ : S43), (⟨21, (⟨#[98]⟩ : ByteArray), 3, 0, 0, false⟩ : S43), (⟨25, (⟨#[82, 111, 111, 116]⟩ : ByteArray), 5, 0, 0, false⟩ : S43)] : List (S43))) := ⟨_, rfl⟩
 replace H : (if t = true then (if c = 0 then ((lapidarylaw09_taken.f k o).bind fun m => ((lapidaryref09_Same.f k m u).bind fun n => (some n))) else (some false)) else (some false)) = some r := by first | (rw [l]; with_reducible exact H) | (have H2_ := (Option.bind_some _ _).symm.trans H; rw [l]; with_reducible exact H2_) | (have H2_ := (Option.bind_some _ _).symm.trans H; with_reducible exact H2_) | with_reducible exact H | (rw [l]; exact H) | exact H
 have d := Aside0.mk l
 clear l
 by_cases G : t = true
 ·subst G
  replace H := ip H
  by_cases y : c = 0
  ·rw [if_pos y] at H
   have z : (c == 0) = true := beq_iff_eq.mpr y
   have A : (c != 0) = false := bne_eq_false_iff_eq.mpr y
   clear y
   obtain ⟨m, X, H⟩ := bs H
   obtain ⟨n, C, H⟩ := bs H
   obtain rfl := Option.some.inj H
   go_enter Try.func7, Try.ntmps7
   go_wp2_with (first | ((with_reducible refine gate_callee (f := 6) rfl ?_); refine gL (some 7) Try.func6 #[.string (⟨#[124, 32, 97, 32, 124, 32, 97, 32, 58, 61, 32, 91, 58, 98, 32, 124, 32, 97, 32, 43, 32, 98, 32, 43, 32, 82, 111, 111, 116, 93]⟩ : ByteArray), .bool false, .slice none 0 0] ?_; (refine (lapidarylaw09_resolved.calls (⟨#[124, 32, 97, 32, 124, 32, 97, 32, 58, 61, 32, 91, 58, 98, 32, 124, 32, 97, 32, 43, 32, 98, 32, 43, 32, 82, 111, 111, 116, 93]⟩ : ByteArray) false _ _ ([] : List ByteArray) o q c true _ ?side1 ?side2 I.out).mono ?_); (case side1 => exact Kd.C_nil _ _); (case side2 => exact Nat.le_refl _); rintro e S ⟨v, rfl, i, j⟩; refine ⟨_, rfl, ?_⟩; have a := rL HB i; replace HB := hB HB j; clear j i) | ((with_reducible refine gd 16 rfl ?_); refine Kd.R_lit k43 _ 43 ?hg (N := 16) ?hd (xs := ([(⟨6, (⟨#[97]⟩ : ByteArray), 3, 0, 0, true⟩ : S43), (⟨17, (⟨#[97]⟩ : ByteArray), 3, 1, 0, false⟩ : S43), (⟨21, (⟨#[98]⟩ : ByteArray), 3, 0, 0, false⟩ : S43), (⟨25, (⟨#[82, 111, 111, 116]⟩ : ByteArray), 5, 0, 0, false⟩ : S43)] : List (S43))) (inner := [.int .i64 6, .string (⟨#[97]⟩ : ByteArray), .int .i64 3, .int .i64 0, .int .i64 0, .bool true, .int .i64 17, .string (⟨#[97]⟩ : ByteArray), .int .i64 3, .int .i64 1, .int .i64 0, .bool false, .int .i64 21, .string (⟨#[98]⟩ : ByteArray), .int .i64 3, .int .i64 0, .int .i64 0, .bool false, .int .i64 25, .string (⟨#[82, 111, 111, 116]⟩ : ByteArray), .int .i64 5, .int .i64 0, .int .i64 0, .bool false]) (ok := fun _ => True) (okp := fun _ => True) ?hr ?hp (fun _ hk => hk) trivial (Below.refl _ _) (Nat.le_refl _) (by simp) ?_; (case hd => rfl); (case hg => rfl); (case hr => first | (go_simp; done) | (go_simp; rfl)); (case hp => exact (Reps.c6 (show Kd.M k43 _ _ _ (⟨6, (⟨#[97]⟩ : ByteArray), 3, 0, 0, true⟩ : S43) [.int .i64 6, .string (⟨#[97]⟩ : ByteArray), .int .i64 3, .int .i64 0, .int .i64 0, .bool true] from (k43_mkM _ _ _ (⟨6, (⟨#[97]⟩ : ByteArray), 3, 0, 0, true⟩ : S43) )) (Reps.c6 (show Kd.M k43 _ _ _ (⟨17, (⟨#[97]⟩ : ByteArray), 3, 1, 0, false⟩ : S43) [.int .i64 17, .string (⟨#[97]⟩ : ByteArray), .int .i64 3, .int .i64 1, .int .i64 0, .bool false] from (k43_mkM _ _ _ (⟨17, (⟨#[97]⟩ : ByteArray), 3, 1, 0, false⟩ : S43) )) (Reps.c6 (show Kd.M k43 _ _ _ (⟨21, (⟨#[98]⟩ : ByteArray), 3, 0, 0, false⟩ : S43) [.int .i64 21, .string (⟨#[98]⟩ : ByteArray), .int .i64 3, .int .i64 0, .int .i64 0, .bool false] from (k43_mkM _ _ _ (⟨21, (⟨#[98]⟩ : ByteArray), 3, 0, 0, false⟩ : S43) )) (Reps.c6 (show Kd.M k43 _ _ _ (⟨25, (⟨#[82, 111, 111, 116]⟩ : ByteArray), 5, 0, 0, false⟩ : S43) [.int .i64 25, .string (⟨#[82, 111, 111, 116]⟩ : ByteArray), .int .i64 5, .int .i64 0, .int .i64 0, .bool false] from (k43_mkM _ _ _ (⟨25, (⟨#[82, 111, 111, 116]⟩ : ByteArray), 5, 0, 0, false⟩ : S43) )) (Reps.none _ _)))))); intro x T s j hg_ hnew_; clear hg_ hnew_; (first | rw [← d.out] at s | (simp only [Int.reduceToNat] at s; rw [← d.out] at s)); have b := rL HB s; replace a := rB a j; replace HB := hB HB j; clear j s; obtain ⟨E, F, J⟩ := sl a; cases J) | (go_at_call 9; (with_reducible refine (lapidarylaw09_taken.calls k _ _ o m _ ?side1 ?side2 X.out).mono ?_); (case side1 => exact cr a); (case side2 => exact rl a); rintro e K ⟨O, rfl, i, j⟩; have p := rL HB (rn i b); replace a := rB a j; replace b := rE b i j; replace HB := hB HB j; clear j i; obtain ⟨U, V, B⟩ := sl p; cases B; obtain ⟨W, Y, D⟩ := sl b; cases D) | (go_at_call 8; (with_reducible refine (lapidaryref09_Same.calls k _ _ m _ _ u n _ ?side1 ?side2 ?side3 ?side4 C.out).mono ?_); (case side1 => exact cr p); (case side2 => exact rl p); (case side3 => exact cr b); (case side4 => exact rl b); rintro e w' ⟨rfl, ⟨nd, rfl⟩⟩))
   go_ret
   exact ⟨er, bw⟩
  ·rw [if_neg y] at H
   have z : (c == 0) = false := beq_eq_false_iff_ne.mpr y
   have A : (c != 0) = true := bne_iff_ne.mpr y
   obtain rfl := Option.some.inj H
   go_enter Try.func7, Try.ntmps7
   go_wp2_with (first | ((with_reducible refine gate_callee (f := 6) rfl ?_); refine gL (some 7) Try.func6 #[.string (⟨#[124, 32, 97, 32, 124, 32, 97, 32, 58, 61, 32, 91, 58, 98, 32, 124, 32, 97, 32, 43, 32, 98, 32, 43, 32, 82, 111, 111, 116, 93]⟩ : ByteArray), .bool false, .slice none 0 0] ?_; (refine (lapidarylaw09_resolved.calls (⟨#[124, 32, 97, 32, 124, 32, 97, 32, 58, 61, 32, 91, 58, 98, 32, 124, 32, 97, 32, 43, 32, 98, 32, 43, 32, 82, 111, 111, 116, 93]⟩ : ByteArray) false _ _ ([] : List ByteArray) o q c true _ ?side1 ?side2 I.out).mono ?_); (case side1 => exact Kd.C_nil _ _); (case side2 => exact Nat.le_refl _); rintro e L ⟨v, rfl, i, j⟩; refine ⟨_, rfl, ?_⟩; have a := rL HB i; replace HB := hB HB j; clear j i) | ((with_reducible refine gd 16 rfl ?_); refine Kd.R_lit k43 _ 43 ?hg (N := 16) ?hd (xs := ([(⟨6, (⟨#[97]⟩ : ByteArray), 3, 0, 0, true⟩ : S43), (⟨17, (⟨#[97]⟩ : ByteArray), 3, 1, 0, false⟩ : S43), (⟨21, (⟨#[98]⟩ : ByteArray), 3, 0, 0, false⟩ : S43), (⟨25, (⟨#[82, 111, 111, 116]⟩ : ByteArray), 5, 0, 0, false⟩ : S43)] : List (S43))) (inner := [.int .i64 6, .string (⟨#[97]⟩ : ByteArray), .int .i64 3, .int .i64 0, .int .i64 0, .bool true, .int .i64 17, .string (⟨#[97]⟩ : ByteArray), .int .i64 3, .int .i64 1, .int .i64 0, .bool false, .int .i64 21, .string (⟨#[98]⟩ : ByteArray), .int .i64 3, .int .i64 0, .int .i64 0, .bool false, .int .i64 25, .string (⟨#[82, 111, 111, 116]⟩ : ByteArray), .int .i64 5, .int .i64 0, .int .i64 0, .bool false]) (ok := fun _ => True) (okp := fun _ => True) ?hr ?hp (fun _ hk => hk) trivial (Below.refl _ _) (Nat.le_refl _) (by simp) ?_; (case hd => rfl); (case hg => rfl); (case hr => first | (go_simp; done) | (go_simp; rfl)); (case hp => exact (Reps.c6 (show Kd.M k43 _ _ _ (⟨6, (⟨#[97]⟩ : ByteArray), 3, 0, 0, true⟩ : S43) [.int .i64 6, .string (⟨#[97]⟩ : ByteArray), .int .i64 3, .int .i64 0, .int .i64 0, .bool true] from (k43_mkM _ _ _ (⟨6, (⟨#[97]⟩ : ByteArray), 3, 0, 0, true⟩ : S43) )) (Reps.c6 (show Kd.M k43 _ _ _ (⟨17, (⟨#[97]⟩ : ByteArray), 3, 1, 0, false⟩ : S43) [.int .i64 17, .string (⟨#[97]⟩ : ByteArray), .int .i64 3, .int .i64 1, .int .i64 0, .bool false] from (k43_mkM _ _ _ (⟨17, (⟨#[97]⟩ : ByteArray), 3, 1, 0, false⟩ : S43) )) (Reps.c6 (show Kd.M k43 _ _ _ (⟨21, (⟨#[98]⟩ : ByteArray), 3, 0, 0, false⟩ : S43) [.int .i64 21, .string (⟨#[98]⟩ : ByteArray), .int .i64 3, .int .i64 0, .int .i64 0, .bool false] from (k43_mkM _ _ _ (⟨21, (⟨#[98]⟩ : ByteArray), 3, 0, 0, false⟩ : S43) )) (Reps.c6 (show Kd.M k43 _ _ _ (⟨25, (⟨#[82, 111, 111, 116]⟩ : ByteArray), 5, 0, 0, false⟩ : S43) [.int .i64 25, .string (⟨#[82, 111, 111, 116]⟩ : ByteArray), .int .i64 5, .int .i64 0, .int .i64 0, .bool false] from (k43_mkM _ _ _ (⟨25, (⟨#[82, 111, 111, 116]⟩ : ByteArray), 5, 0, 0, false⟩ : S43) )) (Reps.none _ _)))))); intro x P ho15 j hg_ hnew_; clear hg_ hnew_; (first | rw [← d.out] at ho15 | (simp only [Int.reduceToNat] at ho15; rw [← d.out] at ho15)); have b := rL HB ho15; replace a := rB a j; replace HB := hB HB j; clear j ho15))
   go_ret
   exact ⟨er, bw⟩
 ·replace G := Bool.eq_false_iff.mpr G
  subst G
  replace H := iq H
  obtain rfl := Option.some.inj H
  go_enter Try.func7, Try.ntmps7
  go_wp2_with (first | ((with_reducible refine gate_callee (f := 6) rfl ?_); refine gL (some 7) Try.func6 #[.string (⟨#[124, 32, 97, 32, 124, 32, 97, 32, 58, 61, 32, 91, 58, 98, 32, 124, 32, 97, 32, 43, 32, 98, 32, 43, 32, 82, 111, 111, 116, 93]⟩ : ByteArray), .bool false, .slice none 0 0] ?_; (refine (lapidarylaw09_resolved.calls (⟨#[124, 32, 97, 32, 124, 32, 97, 32, 58, 61, 32, 91, 58, 98, 32, 124, 32, 97, 32, 43, 32, 98, 32, 43, 32, 82, 111, 111, 116, 93]⟩ : ByteArray) false _ _ ([] : List ByteArray) o q c false _ ?side1 ?side2 I.out).mono ?_); (case side1 => exact Kd.C_nil _ _); (case side2 => exact Nat.le_refl _); rintro e Q ⟨v, rfl, i, j⟩; refine ⟨_, rfl, ?_⟩; have a := rL HB i; replace HB := hB HB j; clear j i) | ((with_reducible refine gd 16 rfl ?_); refine Kd.R_lit k43 _ 43 ?hg (N := 16) ?hd (xs := ([(⟨6, (⟨#[97]⟩ : ByteArray), 3, 0, 0, true⟩ : S43), (⟨17, (⟨#[97]⟩ : ByteArray), 3, 1, 0, false⟩ : S43), (⟨21, (⟨#[98]⟩ : ByteArray), 3, 0, 0, false⟩ : S43), (⟨25, (⟨#[82, 111, 111, 116]⟩ : ByteArray), 5, 0, 0, false⟩ : S43)] : List (S43))) (inner := [.int .i64 6, .string (⟨#[97]⟩ : ByteArray), .int .i64 3, .int .i64 0, .int .i64 0, .bool true, .int .i64 17, .string (⟨#[97]⟩ : ByteArray), .int .i64 3, .int .i64 1, .int .i64 0, .bool false, .int .i64 21, .string (⟨#[98]⟩ : ByteArray), .int .i64 3, .int .i64 0, .int .i64 0, .bool false, .int .i64 25, .string (⟨#[82, 111, 111, 116]⟩ : ByteArray), .int .i64 5, .int .i64 0, .int .i64 0, .bool false]) (ok := fun _ => True) (okp := fun _ => True) ?hr ?hp (fun _ hk => hk) trivial (Below.refl _ _) (Nat.le_refl _) (by simp) ?_; (case hd => rfl); (case hg => rfl); (case hr => first | (go_simp; done) | (go_simp; rfl)); (case hp => exact (Reps.c6 (show Kd.M k43 _ _ _ (⟨6, (⟨#[97]⟩ : ByteArray), 3, 0, 0, true⟩ : S43) [.int .i64 6, .string (⟨#[97]⟩ : ByteArray), .int .i64 3, .int .i64 0, .int .i64 0, .bool true] from (k43_mkM _ _ _ (⟨6, (⟨#[97]⟩ : ByteArray), 3, 0, 0, true⟩ : S43) )) (Reps.c6 (show Kd.M k43 _ _ _ (⟨17, (⟨#[97]⟩ : ByteArray), 3, 1, 0, false⟩ : S43) [.int .i64 17, .string (⟨#[97]⟩ : ByteArray), .int .i64 3, .int .i64 1, .int .i64 0, .bool false] from (k43_mkM _ _ _ (⟨17, (⟨#[97]⟩ : ByteArray), 3, 1, 0, false⟩ : S43) )) (Reps.c6 (show Kd.M k43 _ _ _ (⟨21, (⟨#[98]⟩ : ByteArray), 3, 0, 0, false⟩ : S43) [.int .i64 21, .string (⟨#[98]⟩ : ByteArray), .int .i64 3, .int .i64 0, .int .i64 0, .bool false] from (k43_mkM _ _ _ (⟨21, (⟨#[98]⟩ : ByteArray), 3, 0, 0, false⟩ : S43) )) (Reps.c6 (show Kd.M k43 _ _ _ (⟨25, (⟨#[82, 111, 111, 116]⟩ : ByteArray), 5, 0, 0, false⟩ : S43) [.int .i64 25, .string (⟨#[82, 111, 111, 116]⟩ : ByteArray), .int .i64 5, .int .i64 0, .int .i64 0, .bool false] from (k43_mkM _ _ _ (⟨25, (⟨#[82, 111, 111, 116]⟩ : ByteArray), 5, 0, 0, false⟩ : S43) )) (Reps.none _ _)))))); intro x R ho18 j hg_ hnew_; clear hg_ hnew_; (first | rw [← d.out] at ho18 | (simp only [Int.reduceToNat] at ho18; rw [← d.out] at ho18)); have b := rL HB ho18; replace a := rB a j; replace HB := hB HB j; clear j ho18))
  go_ret
  exact ⟨er, bw⟩
end
end Go.Proofs.Ytpodpmjlkbbkoaa.P
