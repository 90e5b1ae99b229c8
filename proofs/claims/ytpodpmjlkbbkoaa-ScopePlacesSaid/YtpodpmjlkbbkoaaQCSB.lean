import Derived.Lib.Strings
import Derived.Test.YtpodpmjlkbbkoaaQCTA
set_option linter.all false
set_option maxHeartbeats 16000000
set_option maxRecDepth 100000
namespace Go.Proofs.Ytpodpmjlkbbkoaa.P
open Go.RowKit Go.Proofs.YtpodpmjlkbbkoaaW.PrintWords Go.Proofs.YtpodpmjlkbbkoaaW.PrintLast Go.Proofs.YtpodpmjlkbbkoaaW.PrintMore
theorem str_list (s t : ByteArray) : (s.toList == t.toList) = decide (s = t) := by
 rw [Lib.toList_data, Lib.toList_data]
 by_cases h : s = t
 ·subst h; simp
 ·have h2 : ¬ s.data.toList = t.data.toList := fun e => h (by cases s; cases t; simp only [ByteArray.mk.injEq]; exact Array.toList_inj.1 e)
  rw [beq_eq_false_iff_ne.2 h2, decide_eq_false h]
theorem strE {ops : Array Oper} {Q : Exit → Act → World → Prop} {rest : List Oper} {oi : Oper} {a : Act} {w : World} (N : Tmp) {s t : ByteArray} {b : Bool} {x y : Operand} (h : decide (s = t) = b) (hd : oi.dst = some N := by rfl) (hg : oi.guard = none := by rfl) (hop : oi.op = .binOp .eql 9 x y 9 := by rfl) (hx : a.eval x = .string s := by rfl) (hy : a.eval y = .string t := by rfl) (hk : wpList Try.prog ops Q rest (a.put oi.dst (.bool b)) w) : wpList Try.prog ops Q (oi :: rest) a w :=
 Kd.event_run hg (by
  unfold execOp
  simp only [hop, hx, hy]
  go_simp
  rw [str_list, h]) hk
def useC (u : SP.Use) : Array Value := #[.int .i64 u.place, .string u.name, .int .i64 u.kind, .int .i64 u.depth, .int .i64 u.index, .bool u.write]
def FixA (s : ByteArray) (k i : Int) (ok : Bool) (w : World) (e : Ending) (w' : World) : Prop := e = .returned (.tuple #[.agg #[.int .i64 0, .string s, .int .i64 k, .int .i64 0, .int .i64 i, .bool false], .bool ok]) ∧ Below w.heap.size w w'
theorem scope_fixed.isSelf {s : ByteArray} (w : World) (c0 : decide (s = (⟨#[115, 101, 108, 102]⟩ : ByteArray)) = true) : Calls Try.prog 25 #[.string s] w (FixA s (0) 0 true w) := by
 have hu29 := Try.underlying29
 have m := Aside0.mk (Fr.refl (fun k => w.heap.size ≤ k) w)
 have Z := Aside0.mk (Nat.le_refl w.heap.size)
 go_enter Try.func25, Try.ntmps25
 go_wp2_with (first
  | ((with_reducible refine gate_dst (N := 2) rfl ?_); apply boxE 2 #[.int .i64 0, .string ⟨#[]⟩, .int .i64 0, .int .i64 0, .int .i64 0, .bool false] 29; intro o t b i j; replace m := m.f0 i; replace Z := Z.a j; clear j i; have c := b.e6)
  | ((with_reducible refine gate_dst (N := 4) rfl ?_); apply boxE 4 #[.int .i64 0, .string ⟨#[]⟩, .int .i64 0, .int .i64 0, .int .i64 0, .bool false] 29; intro q u d i j; replace m := m.f0 i; replace b := b.b0 i; replace Z := Z.a j; clear j i; clear c; have c := b.e6; have e := d.e6; have n : q ≠ o ∧ o ≠ q := (by have r := Z.out; omega))
  | ((with_reducible refine gate_dst (N := 10) rfl ?_); have p := d.s6 (.int .i64 0) (.string s) (.int .i64 0) (.int .i64 0) (.int .i64 0) (.bool false); clear d; obtain ⟨v, l, i, d⟩ := p; rw [l]; clear l; have r := Z.out; replace m := m.f1 i (by omega); replace b := b.b1 i (by omega); clear r; replace Z := Z.k i; clear i; clear c e n; have c := b.e6; have e := d.e6; have n : q ≠ o ∧ o ≠ q := (by have r := Z.out; omega); apply strE 10 c0))
 have p := b.s6 (.int .i64 0) (.string s) (.int .i64 0) (.int .i64 0) (.int .i64 0) (.bool false)
 clear b
 obtain ⟨x, l, i, b⟩ := p
 rw [l]
 clear l
 have r := Z.out
 replace m := m.f1 i (by omega)
 replace d := d.b1 i (by omega)
 clear r
 replace Z := Z.k i
 clear i
 clear c e n
 have c := b.e6
 have e := d.e6
 have n : q ≠ o ∧ o ≠ q := (by have r := Z.out; omega)
 refine bodyPost_ret (results_ct rfl _ _ o 29 _ (0, 0) _ rfl b.out hu29 rfl rfl) rfl ?_
 exact ⟨rfl, m.out.below (Below.refl _ _) (fun k h => h) (Nat.le_refl _)⟩
theorem scope_fixed.isSuper {s : ByteArray} (w : World) (c0 : decide (s = (⟨#[115, 101, 108, 102]⟩ : ByteArray)) = false) (c1 : decide (s = (⟨#[115, 117, 112, 101, 114]⟩ : ByteArray)) = true) : Calls Try.prog 25 #[.string s] w (FixA s (1) 0 true w) := by
 have hu29 := Try.underlying29
 have m := Aside0.mk (Fr.refl (fun k => w.heap.size ≤ k) w)
 have Z := Aside0.mk (Nat.le_refl w.heap.size)
 go_enter Try.func25, Try.ntmps25
 go_wp2_with (first
  | ((with_reducible refine gate_dst (N := 2) rfl ?_); apply boxE 2 #[.int .i64 0, .string ⟨#[]⟩, .int .i64 0, .int .i64 0, .int .i64 0, .bool false] 29; intro p t b i n; replace m := m.f0 i; replace Z := Z.a n; clear n i; have d := b.e6)
  | ((with_reducible refine gate_dst (N := 4) rfl ?_); apply boxE 4 #[.int .i64 0, .string ⟨#[]⟩, .int .i64 0, .int .i64 0, .int .i64 0, .bool false] 29; intro r u c i n; replace m := m.f0 i; replace b := b.b0 i; replace Z := Z.a n; clear n i; clear d; have d := b.e6; have e := c.e6; have l : r ≠ p ∧ p ≠ r := (by have q := Z.out; omega))
  | ((with_reducible refine gate_dst (N := 10) rfl ?_); have o := c.s6 (.int .i64 0) (.string s) (.int .i64 0) (.int .i64 0) (.int .i64 0) (.bool false); clear c; obtain ⟨v, j, i, c⟩ := o; rw [j]; clear j; have q := Z.out; replace m := m.f1 i (by omega); replace b := b.b1 i (by omega); clear q; replace Z := Z.k i; clear i; clear d e l; have d := b.e6; have e := c.e6; have l : r ≠ p ∧ p ≠ r := (by have q := Z.out; omega); apply strE 10 c0)
  | ((with_reducible refine gate_dst (N := 12) rfl ?_); apply strE 12 c1))
 have o := c.st 2 (.int .i64 1) (cs' := #[.int .i64 0, .string s, .int .i64 1, .int .i64 0, .int .i64 0, .bool false]) rfl
 clear c
 obtain ⟨x, j, i, c⟩ := o
 rw [j]
 clear j
 have q := Z.out
 replace m := m.f1 i (by omega)
 replace b := b.b1 i (by omega)
 clear q
 replace Z := Z.k i
 clear i
 clear d e l
 have d := b.e6
 have e := c.e6
 have l : r ≠ p ∧ p ≠ r := (by have q := Z.out; omega)
 have o := b.s6 (.int .i64 0) (.string s) (.int .i64 1) (.int .i64 0) (.int .i64 0) (.bool false)
 clear b
 obtain ⟨y, j, i, b⟩ := o
 rw [j]
 clear j
 have q := Z.out
 replace m := m.f1 i (by omega)
 replace c := c.b1 i (by omega)
 clear q
 replace Z := Z.k i
 clear i
 clear d e l
 have d := b.e6
 have e := c.e6
 have l : r ≠ p ∧ p ≠ r := (by have q := Z.out; omega)
 refine bodyPost_ret (results_ct rfl _ _ p 29 _ (0, 0) _ rfl b.out hu29 rfl rfl) rfl ?_
 exact ⟨rfl, m.out.below (Below.refl _ _) (fun k h => h) (Nat.le_refl _)⟩
theorem scope_fixed.isNil {s : ByteArray} (w : World) (c0 : decide (s = (⟨#[115, 101, 108, 102]⟩ : ByteArray)) = false) (c1 : decide (s = (⟨#[115, 117, 112, 101, 114]⟩ : ByteArray)) = false) (c2 : decide (s = (⟨#[110, 105, 108]⟩ : ByteArray)) = true) : Calls Try.prog 25 #[.string s] w (FixA s (2) 0 true w) := by
 have hu29 := Try.underlying29
 have m := Aside0.mk (Fr.refl (fun k => w.heap.size ≤ k) w)
 have Z := Aside0.mk (Nat.le_refl w.heap.size)
 go_enter Try.func25, Try.ntmps25
 go_wp2_with (first
  | ((with_reducible refine gate_dst (N := 2) rfl ?_); apply boxE 2 #[.int .i64 0, .string ⟨#[]⟩, .int .i64 0, .int .i64 0, .int .i64 0, .bool false] 29; intro p t b i n; replace m := m.f0 i; replace Z := Z.a n; clear n i; have d := b.e6)
  | ((with_reducible refine gate_dst (N := 4) rfl ?_); apply boxE 4 #[.int .i64 0, .string ⟨#[]⟩, .int .i64 0, .int .i64 0, .int .i64 0, .bool false] 29; intro r u c i n; replace m := m.f0 i; replace b := b.b0 i; replace Z := Z.a n; clear n i; clear d; have d := b.e6; have e := c.e6; have l : r ≠ p ∧ p ≠ r := (by have q := Z.out; omega))
  | ((with_reducible refine gate_dst (N := 10) rfl ?_); have o := c.s6 (.int .i64 0) (.string s) (.int .i64 0) (.int .i64 0) (.int .i64 0) (.bool false); clear c; obtain ⟨v, j, i, c⟩ := o; rw [j]; clear j; have q := Z.out; replace m := m.f1 i (by omega); replace b := b.b1 i (by omega); clear q; replace Z := Z.k i; clear i; clear d e l; have d := b.e6; have e := c.e6; have l : r ≠ p ∧ p ≠ r := (by have q := Z.out; omega); apply strE 10 c0)
  | ((with_reducible refine gate_dst (N := 12) rfl ?_); apply strE 12 c1)
  | ((with_reducible refine gate_dst (N := 15) rfl ?_); apply strE 15 c2))
 have o := c.st 2 (.int .i64 2) (cs' := #[.int .i64 0, .string s, .int .i64 2, .int .i64 0, .int .i64 0, .bool false]) rfl
 clear c
 obtain ⟨x, j, i, c⟩ := o
 rw [j]
 clear j
 have q := Z.out
 replace m := m.f1 i (by omega)
 replace b := b.b1 i (by omega)
 clear q
 replace Z := Z.k i
 clear i
 clear d e l
 have d := b.e6
 have e := c.e6
 have l : r ≠ p ∧ p ≠ r := (by have q := Z.out; omega)
 have o := b.s6 (.int .i64 0) (.string s) (.int .i64 2) (.int .i64 0) (.int .i64 0) (.bool false)
 clear b
 obtain ⟨y, j, i, b⟩ := o
 rw [j]
 clear j
 have q := Z.out
 replace m := m.f1 i (by omega)
 replace c := c.b1 i (by omega)
 clear q
 replace Z := Z.k i
 clear i
 clear d e l
 have d := b.e6
 have e := c.e6
 have l : r ≠ p ∧ p ≠ r := (by have q := Z.out; omega)
 refine bodyPost_ret (results_ct rfl _ _ p 29 _ (0, 0) _ rfl b.out hu29 rfl rfl) rfl ?_
 exact ⟨rfl, m.out.below (Below.refl _ _) (fun k h => h) (Nat.le_refl _)⟩
theorem scope_fixed.isFalse {s : ByteArray} (w : World) (c0 : decide (s = (⟨#[115, 101, 108, 102]⟩ : ByteArray)) = false) (c1 : decide (s = (⟨#[115, 117, 112, 101, 114]⟩ : ByteArray)) = false) (c2 : decide (s = (⟨#[110, 105, 108]⟩ : ByteArray)) = false) (c3 : decide (s = (⟨#[102, 97, 108, 115, 101]⟩ : ByteArray)) = true) : Calls Try.prog 25 #[.string s] w (FixA s (2) 1 true w) := by
 have hu29 := Try.underlying29
 have n := Aside0.mk (Fr.refl (fun k => w.heap.size ≤ k) w)
 have Z := Aside0.mk (Nat.le_refl w.heap.size)
 go_enter Try.func25, Try.ntmps25
 go_wp2_with (first
  | ((with_reducible refine gate_dst (N := 2) rfl ?_); apply boxE 2 #[.int .i64 0, .string ⟨#[]⟩, .int .i64 0, .int .i64 0, .int .i64 0, .bool false] 29; intro p t b i q; replace n := n.f0 i; replace Z := Z.a q; clear q i; have d := b.e6)
  | ((with_reducible refine gate_dst (N := 4) rfl ?_); apply boxE 4 #[.int .i64 0, .string ⟨#[]⟩, .int .i64 0, .int .i64 0, .int .i64 0, .bool false] 29; intro r u c i q; replace n := n.f0 i; replace b := b.b0 i; replace Z := Z.a q; clear q i; clear d; have d := b.e6; have e := c.e6; have l : r ≠ p ∧ p ≠ r := (by have o := Z.out; omega))
  | ((with_reducible refine gate_dst (N := 10) rfl ?_); have m := c.s6 (.int .i64 0) (.string s) (.int .i64 0) (.int .i64 0) (.int .i64 0) (.bool false); clear c; obtain ⟨v, j, i, c⟩ := m; rw [j]; clear j; have o := Z.out; replace n := n.f1 i (by omega); replace b := b.b1 i (by omega); clear o; replace Z := Z.k i; clear i; clear d e l; have d := b.e6; have e := c.e6; have l : r ≠ p ∧ p ≠ r := (by have o := Z.out; omega); apply strE 10 c0)
  | ((with_reducible refine gate_dst (N := 12) rfl ?_); apply strE 12 c1)
  | ((with_reducible refine gate_dst (N := 15) rfl ?_); apply strE 15 c2)
  | ((with_reducible refine gate_dst (N := 18) rfl ?_); apply strE 18 c3))
 have m := c.st 2 (.int .i64 2) (cs' := #[.int .i64 0, .string s, .int .i64 2, .int .i64 0, .int .i64 0, .bool false]) rfl
 clear c
 obtain ⟨x, j, i, c⟩ := m
 rw [j]
 clear j
 have o := Z.out
 replace n := n.f1 i (by omega)
 replace b := b.b1 i (by omega)
 clear o
 replace Z := Z.k i
 clear i
 clear d e l
 have d := b.e6
 have e := c.e6
 have l : r ≠ p ∧ p ≠ r := (by have o := Z.out; omega)
 have m := c.st 4 (.int .i64 1) (cs' := #[.int .i64 0, .string s, .int .i64 2, .int .i64 0, .int .i64 1, .bool false]) rfl
 clear c
 obtain ⟨y, j, i, c⟩ := m
 rw [j]
 clear j
 have o := Z.out
 replace n := n.f1 i (by omega)
 replace b := b.b1 i (by omega)
 clear o
 replace Z := Z.k i
 clear i
 clear d e l
 have d := b.e6
 have e := c.e6
 have l : r ≠ p ∧ p ≠ r := (by have o := Z.out; omega)
 have m := b.s6 (.int .i64 0) (.string s) (.int .i64 2) (.int .i64 0) (.int .i64 1) (.bool false)
 clear b
 obtain ⟨z, j, i, b⟩ := m
 rw [j]
 clear j
 have o := Z.out
 replace n := n.f1 i (by omega)
 replace c := c.b1 i (by omega)
 clear o
 replace Z := Z.k i
 clear i
 clear d e l
 have d := b.e6
 have e := c.e6
 have l : r ≠ p ∧ p ≠ r := (by have o := Z.out; omega)
 refine bodyPost_ret (results_ct rfl _ _ p 29 _ (0, 0) _ rfl b.out hu29 rfl rfl) rfl ?_
 exact ⟨rfl, n.out.below (Below.refl _ _) (fun k h => h) (Nat.le_refl _)⟩
theorem scope_fixed.isTrue {s : ByteArray} (w : World) (c0 : decide (s = (⟨#[115, 101, 108, 102]⟩ : ByteArray)) = false) (c1 : decide (s = (⟨#[115, 117, 112, 101, 114]⟩ : ByteArray)) = false) (c2 : decide (s = (⟨#[110, 105, 108]⟩ : ByteArray)) = false) (c3 : decide (s = (⟨#[102, 97, 108, 115, 101]⟩ : ByteArray)) = false) (c4 : decide (s = (⟨#[116, 114, 117, 101]⟩ : ByteArray)) = true) : Calls Try.prog 25 #[.string s] w (FixA s (2) 2 true w) := by
 have hu29 := Try.underlying29
 have n := Aside0.mk (Fr.refl (fun k => w.heap.size ≤ k) w)
 have Z := Aside0.mk (Nat.le_refl w.heap.size)
 go_enter Try.func25, Try.ntmps25
 go_wp2_with (first
  | ((with_reducible refine gate_dst (N := 2) rfl ?_); apply boxE 2 #[.int .i64 0, .string ⟨#[]⟩, .int .i64 0, .int .i64 0, .int .i64 0, .bool false] 29; intro p t b i q; replace n := n.f0 i; replace Z := Z.a q; clear q i; have d := b.e6)
  | ((with_reducible refine gate_dst (N := 4) rfl ?_); apply boxE 4 #[.int .i64 0, .string ⟨#[]⟩, .int .i64 0, .int .i64 0, .int .i64 0, .bool false] 29; intro r u c i q; replace n := n.f0 i; replace b := b.b0 i; replace Z := Z.a q; clear q i; clear d; have d := b.e6; have e := c.e6; have l : r ≠ p ∧ p ≠ r := (by have o := Z.out; omega))
  | ((with_reducible refine gate_dst (N := 10) rfl ?_); have m := c.s6 (.int .i64 0) (.string s) (.int .i64 0) (.int .i64 0) (.int .i64 0) (.bool false); clear c; obtain ⟨v, j, i, c⟩ := m; rw [j]; clear j; have o := Z.out; replace n := n.f1 i (by omega); replace b := b.b1 i (by omega); clear o; replace Z := Z.k i; clear i; clear d e l; have d := b.e6; have e := c.e6; have l : r ≠ p ∧ p ≠ r := (by have o := Z.out; omega); apply strE 10 c0)
  | ((with_reducible refine gate_dst (N := 12) rfl ?_); apply strE 12 c1)
  | ((with_reducible refine gate_dst (N := 15) rfl ?_); apply strE 15 c2)
  | ((with_reducible refine gate_dst (N := 18) rfl ?_); apply strE 18 c3)
  | ((with_reducible refine gate_dst (N := 22) rfl ?_); apply strE 22 c4))
 have m := c.st 2 (.int .i64 2) (cs' := #[.int .i64 0, .string s, .int .i64 2, .int .i64 0, .int .i64 0, .bool false]) rfl
 clear c
 obtain ⟨x, j, i, c⟩ := m
 rw [j]
 clear j
 have o := Z.out
 replace n := n.f1 i (by omega)
 replace b := b.b1 i (by omega)
 clear o
 replace Z := Z.k i
 clear i
 clear d e l
 have d := b.e6
 have e := c.e6
 have l : r ≠ p ∧ p ≠ r := (by have o := Z.out; omega)
 have m := c.st 4 (.int .i64 2) (cs' := #[.int .i64 0, .string s, .int .i64 2, .int .i64 0, .int .i64 2, .bool false]) rfl
 clear c
 obtain ⟨y, j, i, c⟩ := m
 rw [j]
 clear j
 have o := Z.out
 replace n := n.f1 i (by omega)
 replace b := b.b1 i (by omega)
 clear o
 replace Z := Z.k i
 clear i
 clear d e l
 have d := b.e6
 have e := c.e6
 have l : r ≠ p ∧ p ≠ r := (by have o := Z.out; omega)
 have m := b.s6 (.int .i64 0) (.string s) (.int .i64 2) (.int .i64 0) (.int .i64 2) (.bool false)
 clear b
 obtain ⟨z, j, i, b⟩ := m
 rw [j]
 clear j
 have o := Z.out
 replace n := n.f1 i (by omega)
 replace c := c.b1 i (by omega)
 clear o
 replace Z := Z.k i
 clear i
 clear d e l
 have d := b.e6
 have e := c.e6
 have l : r ≠ p ∧ p ≠ r := (by have o := Z.out; omega)
 refine bodyPost_ret (results_ct rfl _ _ p 29 _ (0, 0) _ rfl b.out hu29 rfl rfl) rfl ?_
 exact ⟨rfl, n.out.below (Below.refl _ _) (fun k h => h) (Nat.le_refl _)⟩
theorem scope_fixed.isNone {s : ByteArray} (w : World) (c0 : decide (s = (⟨#[115, 101, 108, 102]⟩ : ByteArray)) = false) (c1 : decide (s = (⟨#[115, 117, 112, 101, 114]⟩ : ByteArray)) = false) (c2 : decide (s = (⟨#[110, 105, 108]⟩ : ByteArray)) = false) (c3 : decide (s = (⟨#[102, 97, 108, 115, 101]⟩ : ByteArray)) = false) (c4 : decide (s = (⟨#[116, 114, 117, 101]⟩ : ByteArray)) = false) : Calls Try.prog 25 #[.string s] w (FixA s (0) 0 false w) := by
 have hu29 := Try.underlying29
 have m := Aside0.mk (Fr.refl (fun k => w.heap.size ≤ k) w)
 have Z := Aside0.mk (Nat.le_refl w.heap.size)
 go_enter Try.func25, Try.ntmps25
 go_wp2_with (first
  | ((with_reducible refine gate_dst (N := 2) rfl ?_); apply boxE 2 #[.int .i64 0, .string ⟨#[]⟩, .int .i64 0, .int .i64 0, .int .i64 0, .bool false] 29; intro o t b i j; replace m := m.f0 i; replace Z := Z.a j; clear j i; have c := b.e6)
  | ((with_reducible refine gate_dst (N := 4) rfl ?_); apply boxE 4 #[.int .i64 0, .string ⟨#[]⟩, .int .i64 0, .int .i64 0, .int .i64 0, .bool false] 29; intro q u d i j; replace m := m.f0 i; replace b := b.b0 i; replace Z := Z.a j; clear j i; clear c; have c := b.e6; have e := d.e6; have n : q ≠ o ∧ o ≠ q := (by have r := Z.out; omega))
  | ((with_reducible refine gate_dst (N := 10) rfl ?_); have p := d.s6 (.int .i64 0) (.string s) (.int .i64 0) (.int .i64 0) (.int .i64 0) (.bool false); clear d; obtain ⟨v, l, i, d⟩ := p; rw [l]; clear l; have r := Z.out; replace m := m.f1 i (by omega); replace b := b.b1 i (by omega); clear r; replace Z := Z.k i; clear i; clear c e n; have c := b.e6; have e := d.e6; have n : q ≠ o ∧ o ≠ q := (by have r := Z.out; omega); apply strE 10 c0)
  | ((with_reducible refine gate_dst (N := 12) rfl ?_); apply strE 12 c1)
  | ((with_reducible refine gate_dst (N := 15) rfl ?_); apply strE 15 c2)
  | ((with_reducible refine gate_dst (N := 18) rfl ?_); apply strE 18 c3)
  | ((with_reducible refine gate_dst (N := 22) rfl ?_); apply strE 22 c4))
 have p := b.s6 (.int .i64 0) (.string s) (.int .i64 0) (.int .i64 0) (.int .i64 0) (.bool false)
 clear b
 obtain ⟨x, l, i, b⟩ := p
 rw [l]
 clear l
 have r := Z.out
 replace m := m.f1 i (by omega)
 replace d := d.b1 i (by omega)
 clear r
 replace Z := Z.k i
 clear i
 clear c e n
 have c := b.e6
 have e := d.e6
 have n : q ≠ o ∧ o ≠ q := (by have r := Z.out; omega)
 refine bodyPost_ret (results_ct rfl _ _ o 29 _ (0, 0) _ rfl b.out hu29 rfl rfl) rfl ?_
 exact ⟨rfl, m.out.below (Below.refl _ _) (fun k h => h) (Nat.le_refl _)⟩
end Go.Proofs.Ytpodpmjlkbbkoaa.P
set_option maxHeartbeats 16000000
set_option maxRecDepth 100000
namespace Go.Proofs.Ytpodpmjlkbbkoaa.P
open Go.RowKit Go.Proofs.YtpodpmjlkbbkoaaW.PrintWords Go.Proofs.YtpodpmjlkbbkoaaW.PrintLast Go.Proofs.YtpodpmjlkbbkoaaW.PrintMore
def FixR (s : ByteArray) (w : World) (e : Ending) (w' : World) : Prop := FixA s ((SP.fixed s).getD (0, 0)).1 ((SP.fixed s).getD (0, 0)).2 (SP.fixed s).isSome w e w'
theorem scope_fixed.calls (s : ByteArray) (w : World) : Calls Try.prog 25 #[.string s] w (FixR s w) := by
 unfold FixR SP.fixed
 by_cases h0 : s = SP.sSelf
 ·rw [if_pos h0]; exact scope_fixed.isSelf w (decide_eq_true h0)
 ·rw [if_neg h0]
  by_cases h1 : s = SP.sSuper
  ·rw [if_pos h1]; exact scope_fixed.isSuper w (decide_eq_false h0) (decide_eq_true h1)
  ·rw [if_neg h1]
   by_cases h2 : s = SP.sNil
   ·rw [if_pos h2]; exact scope_fixed.isNil w (decide_eq_false h0) (decide_eq_false h1) (decide_eq_true h2)
   ·rw [if_neg h2]
    by_cases h3 : s = SP.sFalse
    ·rw [if_pos h3]; exact scope_fixed.isFalse w (decide_eq_false h0) (decide_eq_false h1) (decide_eq_false h2) (decide_eq_true h3)
    ·rw [if_neg h3]
     by_cases h4 : s = SP.sTrue
     ·rw [if_pos h4]; exact scope_fixed.isTrue w (decide_eq_false h0) (decide_eq_false h1) (decide_eq_false h2) (decide_eq_false h3) (decide_eq_true h4)
     ·rw [if_neg h4]; exact scope_fixed.isNone w (decide_eq_false h0) (decide_eq_false h1) (decide_eq_false h2) (decide_eq_false h3) (decide_eq_false h4)
def idxI (s : ByteArray) (xs : List ByteArray) : Int := match SP.idx s xs 0 with
 | some i => (i : Int)
 | none => -1
theorem slices_index.calls {A : Option Addr} {c : Nat} {xs : List ByteArray} (s : ByteArray) (w : World) (hC : Kd.string.C w A xs.length xs) (hc : xs.length ≤ c) :
  Calls Try.prog 35 #[.slice A xs.length c, .string s] w fun e w' => e = .returned (.int .i64 (idxI s xs)) ∧ w' = w := by
 go_enter Try.func35, Try.ntmps35
 go_wp2
 go_loopg [8] xs.length (fun gk d w' => ∃ i : Nat, d = .int .i64 (i : Int) ∧ i + gk = xs.length ∧ Aside0 (SP.idx s (xs.drop i) i = SP.idx s xs 0) ∧ w' = w)
 case atStart => exact ⟨0, rfl, by omega, ⟨rfl⟩, rfl⟩
 case round =>
  obtain ⟨i, rfl, hi, hx, rfl⟩ := hrel
  cases gk with
  | zero =>
   have c1 : decide ((i : Int) < (xs.length : Int)) = false := decide_eq_false (by omega)
   go_wp2
   go_ret
   have h2 := hx.out
   rw [List.drop_eq_nil_of_le (by omega)] at h2
   simp only [SP.idx] at h2
   exact ⟨by unfold idxI; rw [← h2]; rfl, rfl⟩
  | succ k1 =>
   have c1 : decide ((i : Int) < (xs.length : Int)) = true := decide_eq_true (by omega)
   obtain ⟨ad, rfl, a⟩ := Kd.at_string hC i (by omega) (by omega)
   simp only [Int.toNat_natCast] at a
   have b : i < xs.length := by omega
   have hd : xs.drop i = rdOf ByteArray.empty xs i :: xs.drop (i + 1) := by
    rw [List.drop_eq_getElem_cons b]
    congr 1
    simp [rdOf, b]
   have h2 := hx.out
   rw [hd] at h2
   simp only [SP.idx] at h2
   have hX := Aside0.mk h2
   clear h2 hd hx
   by_cases he : s = rdOf ByteArray.empty xs i
   ·have ce := decide_eq_true he
    go_wp2_with (first
     | ((with_reducible refine gate_dst (N := 16) rfl ?_); apply strE 16 ce))
    go_ret
    have h2 := hX.out
    rw [if_pos he.symm] at h2
    exact ⟨by unfold idxI; rw [← h2]; rfl, rfl⟩
   ·have ce := decide_eq_false he
    go_wp2_with (first
     | ((with_reducible refine gate_dst (N := 16) rfl ?_); apply strE 16 ce))
    have h2 := hX.out
    rw [if_neg (fun e => he e.symm)] at h2
    have hm := Kd.C_max hC
    have hw : wrap64 ((i : Int) + 1) = ((i + 1 : Nat) : Int) := by unfold wrap64; omega
    rw [hw]
    go_roundg k1
    case measure => omega
    case rel => exact ⟨i + 1, rfl, by omega, ⟨h2⟩, rfl⟩
theorem slices_contains.calls {A : Option Addr} {c : Nat} {xs : List ByteArray} (s : ByteArray) (w : World) (hC : Kd.string.C w A xs.length xs) (hc : xs.length ≤ c) :
  Calls Try.prog 26 #[.slice A xs.length c, .string s] w fun e w' => e = .returned (.bool (decide (0 ≤ idxI s xs))) ∧ w' = w := by
 go_enter Try.func26, Try.ntmps26
 go_wp2_with (first
  | ((with_reducible refine gate_dst (N := 7) rfl ?_); apply goE 7 Try.func35 (slices_index.calls s w hC hc); rintro e_ w_ ⟨rfl, rfl⟩; refine Or.inl ⟨_, rfl, ?_⟩))
 go_ret
 exact ⟨rfl, rfl⟩
theorem beq_bytes (s t : ByteArray) : (s == t) = decide (s = t) := by
 have e : (s == t) = (s.data == t.data) := rfl
 rw [e]
 by_cases h : s = t
 ·subst h; simp
 ·have h2 : ¬ s.data = t.data := fun e => h (by cases s; cases t; simp only [ByteArray.mk.injEq]; exact e)
  rw [beq_eq_false_iff_ne.2 h2, decide_eq_false h]
theorem idx_mem (s : ByteArray) : ∀ (xs : List ByteArray) (i : Nat), (SP.idx s xs i).isSome = xs.contains s
 | [], _ => rfl
 | x :: l, i => by
  unfold SP.idx
  rw [List.contains_cons, beq_bytes]
  by_cases h : x = s
  ·rw [if_pos h, decide_eq_true h.symm]; rfl
  ·rw [if_neg h, idx_mem s l (i + 1), decide_eq_false (fun e => h e.symm)]; rfl
theorem idxI_mem (s : ByteArray) (xs : List ByteArray) : decide (0 ≤ idxI s xs) = xs.contains s := by
 rw [← idx_mem s xs 0]
 unfold idxI
 cases SP.idx s xs 0 with
 | none => rfl
 | some i => simp
end Go.Proofs.Ytpodpmjlkbbkoaa.P
