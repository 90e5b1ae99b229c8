import Derived.Test.YtpodpmjlkbbkoaaQCRD6
import Derived.Test.YtpodpmjlkbbkoaaQCZ2
set_option linter.all false
namespace Go.Proofs.Ytpodpmjlkbbkoaa.P
open Go.RowKit Go.Proofs.YtpodpmjlkbbkoaaW.PrintWords Go.Proofs.YtpodpmjlkbbkoaaW.PrintLast Go.Proofs.YtpodpmjlkbbkoaaW.PrintMore
attribute [local go_sem] max2_int min2_int max_two min_two max_three min_three max_four min_four
set_option maxHeartbeats 16000000
set_option maxRecDepth 100000
def whole_made.f (k : Nat) (a0 : Bool) (l1 : List Int) : Option (Bool × List Int) := (whole_words_bytes.f k l1).bind fun t153 => (if a0 = true then (some (decide (0 < t153.length), t153)) else (some (false, t153)))
theorem whole_made.mono : ∀ a0 a1 k, LeO (whole_made.f k a0 a1) (whole_made.f (k + 1) a0 a1) := by
 intro a0 a1 k
 unfold whole_made.f
 repeat' first | with_reducible exact whole_words_bytes.mono _ _ | with_reducible exact LeO.refl _ | with_reducible exact LeO.none _ | with_reducible refine LeO.ite ?_ ?_ | with_reducible refine LeO.bind ?_ (fun _ => ?_) | exact whole_words_bytes.mono _ _ | exact LeO.none _ | refine LeO.ite ?_ ?_ | refine LeO.bind ?_ (fun _ => ?_)
theorem whole_made.calls (k : Nat) (a0 : Bool) (A1 : Option Addr) (c1 : Nat) (l1 : List Int) (r1 : Bool) (r2 : List Int) (w : World) (hr1 : Kd.C (Kd.int .u32) w A1 l1.length l1) (hc1 : l1.length ≤ c1) (h : whole_made.f k a0 l1 = some (r1, r2)) :
  Calls Try.prog 67 #[.bool a0, .slice A1 l1.length c1] w fun e w' => ∃ v1_ : Value, e = .returned (.agg #[.bool r1, v1_]) ∧ Kd.R (Kd.int .u8) 5 w' w.heap.size (fun _ => True) v1_ r2 ∧ Below w.heap.size w w' := by
 have hu25 := Try.underlying92
 have m := Aside0.mk hr1
 have n := Aside0.mk hc1
 clear hr1 hc1
 have HB := Aside0.mk (Below.refl w.heap.size w)
 have H : ((whole_words_bytes.f k l1).bind fun b => (if a0 = true then (some (decide (0 < b.length), b)) else (some (false, b)))) = some (r1, r2) := h
 clear h
 obtain ⟨b, x, H⟩ := bs H
 by_cases s : a0 = true
 ·subst s
  replace H := ip H
  simp only [Option.some.injEq, Prod.mk.injEq] at H
  obtain ⟨rfl, rfl⟩ := H
  go_enter Try.func67, Try.ntmps67
  go_wp2_with (first | ((with_reducible refine gd 4 rfl ?_); refine bX 4 rfl HB #[.bool false, .slice none 0 0] 92 ?_; intro d z a l hg i; replace HB := hB HB i; clear i hg) | ((with_reducible refine ga 72 rfl ?_); refine gc (some 7) Try.func72 #[.slice A1 l1.length c1] (whole_words_bytes.calls k _ _ l1 b _ (cb m HB) n.out x.out) ?_; rintro e A ⟨o, rfl, j, i⟩; refine ⟨_, rfl, ?_⟩; have c := rL HB j; replace a := kB a i; replace HB := hB HB i; clear i j; obtain ⟨t, u, v⟩ := sl c; cases v; have hcz8 := zf2 a))
  refine bodyPost_ret (results_cell_row rfl _ _ d 92 #[.bool (decide (0 < b.length)), .slice t b.length u] (0, 0) _ rfl (bp a) Try.underlying92 rfl (by kernel_rfl)) rfl ?_
  exact ⟨_, er, rf (rt c a), bw⟩
 ·replace s := Bool.eq_false_iff.mpr s
  subst s
  replace H := iq H
  simp only [Option.some.injEq, Prod.mk.injEq] at H
  obtain ⟨rfl, rfl⟩ := H
  go_enter Try.func67, Try.ntmps67
  go_wp2_with (first | ((with_reducible refine gd 4 rfl ?_); refine bX 4 rfl HB #[.bool false, .slice none 0 0] 92 ?_; intro d B a l hg i; replace HB := hB HB i; clear i hg) | ((with_reducible refine ga 72 rfl ?_); refine gc (some 7) Try.func72 #[.slice A1 l1.length c1] (whole_words_bytes.calls k _ _ l1 b _ (cb m HB) n.out x.out) ?_; rintro e y ⟨o, rfl, j, i⟩; refine ⟨_, rfl, ?_⟩; have c := rL HB j; replace a := kB a i; replace HB := hB HB i; clear i j; obtain ⟨p, q, r⟩ := sl c; cases r; have hcz12 := zf2 a))
  refine bodyPost_ret (results_cell_row rfl _ _ d 92 #[.bool false, .slice p b.length q] (0, 0) _ rfl (bp a) Try.underlying92 rfl (by kernel_rfl)) rfl ?_
  exact ⟨_, er, rf (rt c a), bw⟩
def whole_fits.f (k : Nat) (a0 : Bool) (l1 : List Int) : Option (Bool × List Int × Int) := (whole_made.f k a0 l1).bind fun bt488 => (if (bt488.2.length : Int) > 128 then (some (false, ([] : List Int), 24)) else (some (bt488.1, bt488.2, 0)))
theorem whole_fits.mono : ∀ a0 a1 k, LeO (whole_fits.f k a0 a1) (whole_fits.f (k + 1) a0 a1) := by
 intro a0 a1 k
 unfold whole_fits.f
 repeat' first | with_reducible exact whole_made.mono _ _ _ | with_reducible exact LeO.refl _ | with_reducible exact LeO.none _ | with_reducible refine LeO.ite ?_ ?_ | with_reducible refine LeO.bind ?_ (fun _ => ?_) | exact whole_made.mono _ _ _ | exact LeO.none _ | refine LeO.ite ?_ ?_ | refine LeO.bind ?_ (fun _ => ?_)
theorem whole_fits.calls (k : Nat) (a0 : Bool) (A1 : Option Addr) (c1 : Nat) (l1 : List Int) (r1 : Bool) (r2 : List Int) (r3 : Int) (w : World) (hr1 : Kd.C (Kd.int .u32) w A1 l1.length l1) (hc1 : l1.length ≤ c1) (h : whole_fits.f k a0 l1 = some (r1, r2, r3)) :
  Calls Try.prog 57 #[.bool a0, .slice A1 l1.length c1] w fun e w' => ∃ v1_ : Value, e = .returned (.tuple #[.agg #[.bool r1, v1_], .int .i64 r3]) ∧ Kd.R (Kd.int .u8) 5 w' w.heap.size (fun _ => True) v1_ r2 ∧ Below w.heap.size w w' := by
 have hu25 := Try.underlying92
 have r := Aside0.mk hr1
 have s := Aside0.mk hc1
 clear hr1 hc1
 have HB := Aside0.mk (Below.refl w.heap.size w)
 have H : ((whole_made.f k a0 l1).bind fun bt488 => (if (bt488.2.length : Int) > 128 then (some (false, ([] : List Int), 24)) else (some (bt488.1, bt488.2, 0)))) = some (r1, r2, r3) := h
 clear h
 obtain ⟨⟨l, c⟩, B, H⟩ := bs H
 by_cases q : (c.length : Int) > 128
 ·rw [if_pos q] at H
  have t : decide (128 < (c.length : Int)) = true := decide_eq_true q
  have u : decide (128 < c.length) = true := decide_eq_true (by omega)
  clear q
  simp only [Option.some.injEq, Prod.mk.injEq] at H
  obtain ⟨rfl, rfl, rfl⟩ := H
  go_enter Try.func57, Try.ntmps57
  go_wp2_with (first | ((with_reducible refine gd 4 rfl ?_); refine bX 4 rfl HB #[.bool false, .slice none 0 0] 92 ?_; intro j N a n hg d; replace HB := hB HB d; clear d hg) | ((with_reducible refine ga 67 rfl ?_); refine gc (some 9) Try.func67 #[.bool a0, .slice A1 l1.length c1] (whole_made.calls k a0 _ _ l1 l c _ (cb r HB) s.out B.out) ?_; rintro e O ⟨v, rfl, m, d⟩; refine ⟨_, rfl, ?_⟩; have b := rL HB m; replace a := kB a d; replace HB := hB HB d; clear d m) | ((with_reducible refine gd 6 rfl ?_); refine bX 6 rfl HB #[.bool false, .slice none 0 0] 92 ?_; intro o U i p hg d; obtain ⟨NB487_492, NB492_487⟩ := nB a hg; replace b := rB b d; replace a := kB a d; replace HB := hB HB d; clear d hg; have hn8 := nn NB492_487; have hcz9 := zf2 i; obtain ⟨D, G, x⟩ := sl b; cases x; have hcz11 := zf2 a))
  refine bodyPost_ret (results_ct rfl _ _ j 92 #[.bool false, .slice none 0 0] (0, 0) _ rfl (bp a) Try.underlying92 rfl (by kernel_rfl)) rfl ?_
  exact ⟨_, er, nl, bw⟩
 ·rw [if_neg q] at H
  have t : decide (128 < (c.length : Int)) = false := decide_eq_false q
  have u : decide (128 < c.length) = false := decide_eq_false (by omega)
  clear q
  simp only [Option.some.injEq, Prod.mk.injEq] at H
  obtain ⟨rfl, rfl, rfl⟩ := H
  go_enter Try.func57, Try.ntmps57
  go_wp2_with (first | ((with_reducible refine gd 4 rfl ?_); refine bX 4 rfl HB #[.bool false, .slice none 0 0] 92 ?_; intro j I a n hg d; replace HB := hB HB d; clear d hg) | ((with_reducible refine ga 67 rfl ?_); refine gc (some 9) Try.func67 #[.bool a0, .slice A1 l1.length c1] (whole_made.calls k a0 _ _ l1 l c _ (cb r HB) s.out B.out) ?_; rintro e J ⟨v, rfl, m, d⟩; refine ⟨_, rfl, ?_⟩; have b := rL HB m; replace a := kB a d; replace HB := hB HB d; clear d m) | ((with_reducible refine gd 6 rfl ?_); refine bX 6 rfl HB #[.bool false, .slice none 0 0] 92 ?_; intro o M i p hg d; obtain ⟨NB487_492, NB492_487⟩ := nB a hg; replace b := rB b d; replace a := kB a d; replace HB := hB HB d; clear d hg; have hn15 := nn NB492_487; have hcz16 := zf2 i; obtain ⟨y, z, A⟩ := sl b; cases A; have hcz18 := zf2 a))
  refine bodyPost_ret (results_ct rfl _ _ j 92 #[.bool l, .slice y c.length z] (0, 0) _ rfl (bp a) Try.underlying92 rfl (by kernel_rfl)) rfl ?_
  exact ⟨_, er, rf (rt (rt b i) a), bw⟩
end Go.Proofs.Ytpodpmjlkbbkoaa.P
