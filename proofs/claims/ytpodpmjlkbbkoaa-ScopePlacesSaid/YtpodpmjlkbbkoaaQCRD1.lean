import Derived.Test.YtpodpmjlkbbkoaaQCTA
import Derived.Test.YtpodpmjlkbbkoaaQCZ2
set_option linter.all false
namespace Go.Proofs.Ytpodpmjlkbbkoaa.P
open Go.RowKit Go.Proofs.YtpodpmjlkbbkoaaW.PrintWords Go.Proofs.YtpodpmjlkbbkoaaW.PrintLast Go.Proofs.YtpodpmjlkbbkoaaW.PrintMore
attribute [local go_sem] max2_int min2_int max_two min_two max_three min_three max_four min_four
set_option maxHeartbeats 16000000
set_option maxRecDepth 100000
def whole_words_trim.l0 : Nat → List Int → Option (List Int)
 | 0, _ => none
 | k + 1, x0 => if (x0.length : Int) > 0 then (if 0 ≤ (wrap64 ((x0.length : Int) - 1)) then (if (wrap64 ((x0.length : Int) - 1)) < (x0.length : Int) then (if (rd x0 (wrap64 ((x0.length : Int) - 1))) = 0 then (if (wrap64 ((x0.length : Int) - 1)) ≤ (x0.length : Int) then (whole_words_trim.l0 k (x0.take ((wrap64 ((x0.length : Int) - 1)) : Int).toNat)) else (none)) else (some x0)) else (none)) else (none)) else (some x0)
def whole_words_trim.f (k : Nat) (l0 : List Int) : Option (List Int) := whole_words_trim.l0 k l0
theorem whole_words_trim.mono_l : ∀ k, (∀ y0, LeO (whole_words_trim.l0 k y0) (whole_words_trim.l0 (k + 1) y0))
 | 0 => fun _ r h => by simp [whole_words_trim.l0] at h
 | k + 1 => by
  have ih0 := whole_words_trim.mono_l k
  ·intro y0
   unfold whole_words_trim.l0
   repeat' first | with_reducible exact ih0 _ | with_reducible exact LeO.refl _ | with_reducible exact LeO.none _ | with_reducible refine LeO.ite ?_ ?_ | with_reducible refine LeO.bind ?_ (fun _ => ?_) | exact ih0 _ | exact LeO.none _ | refine LeO.ite ?_ ?_ | refine LeO.bind ?_ (fun _ => ?_)
theorem whole_words_trim.mono : ∀ a0 k, LeO (whole_words_trim.f k a0) (whole_words_trim.f (k + 1) a0) := by
 intro a0 k
 have ih0 := whole_words_trim.mono_l k
 unfold whole_words_trim.f
 repeat' first | with_reducible exact ih0 _ | with_reducible exact LeO.refl _ | with_reducible exact LeO.none _ | with_reducible refine LeO.ite ?_ ?_ | with_reducible refine LeO.bind ?_ (fun _ => ?_) | exact ih0 _ | exact LeO.none _ | refine LeO.ite ?_ ?_ | refine LeO.bind ?_ (fun _ => ?_)
theorem whole_words_trim.calls (k : Nat) (P0_ : Nat → Prop) (A0 : Option Addr) (c0 : Nat) (l0 : List Int) (r : List Int) (w : World) (hs0 : Kd.V (Kd.int .u32) 105 w w.heap.size (fun k_ => P0_ k_) (.slice A0 l0.length c0) l0) (h : whole_words_trim.f k l0 = some r) :
  Calls Try.prog 56 #[.slice A0 l0.length c0] w fun e w' => ∃ v0_ : Value, e = .returned (v0_) ∧ Kd.V (Kd.int .u32) 105 w' w.heap.size (fun k_ => (P0_ k_ ∨ w.heap.size ≤ k_)) v0_ r ∧ Below w.heap.size w w' := by
 have O := Aside0.mk (show Kd.V (Kd.int .u32) 105 w w.heap.size (fun k_ => (P0_ k_ ∨ w.heap.size ≤ k_)) (.slice A0 l0.length c0) l0 from Kd.V_mono hs0 (fun k_ hk => .inl hk))
 have HB := Aside0.mk (Below.refl w.heap.size w)
 have H : (whole_words_trim.l0 k l0) = some r := h
 clear h
 have H' := Aside0.mk H
 clear H
 go_enter Try.func56, Try.ntmps56
 go_wp2
 go_loopg [0] k (fun kq T w' => ∃ (a : List Int), Aside0 (whole_words_trim.l0 kq a = some r) ∧ Aside0 (kq ≤ k) ∧ Aside0 (Kd.V (Kd.int .u32) 105 w' w.heap.size (fun k_ => (P0_ k_ ∨ w.heap.size ≤ k_)) T a) ∧ Aside0 (Below w.heap.size w w'))
 case atStart => exact ⟨(l0), H', ⟨Nat.le_refl _⟩, ⟨vb O⟩, ⟨bw⟩⟩
 case round =>
  clear H'
  obtain ⟨a, HA, y, b, HB⟩ := hrel
  cases gk with
  | zero => exact absurd HA.out (by simp [whole_words_trim.l0])
  | succ k1 =>
   have H := HA.out
   clear HA
   simp only [whole_words_trim.l0] at H
   by_cases x : (a.length : Int) > 0
   ·rw [if_pos x] at H
    have z : decide (0 < (a.length : Int)) = true := decide_eq_true x
    have A : decide (0 < a.length) = true := decide_eq_true (by omega)
    clear x
    obtain ⟨ji3, hji3⟩ : ∃ j_ : Int, (wrap64 ((a.length : Int) - 1)) = j_ := ⟨_, rfl⟩
    replace H : (if 0 ≤ (ji3) then (if (ji3) < (a.length : Int) then (if (rd a (ji3)) = 0 then (if (ji3) ≤ (a.length : Int) then (whole_words_trim.l0 k1 (a.take ((ji3) : Int).toNat)) else (none)) else (some a)) else (none)) else (none)) = some r := by first | (rw [hji3] at H; exact H) | (simp only [hji3] at H ⊢; exact H)
    have hji3w : (IntKind.i64.wrap ((a.length : Int) - 1)) = ji3 := (i64_w _).trans hji3
    by_cases M : 0 ≤ (ji3)
    ·rw [if_pos M] at H
     have Y : decide (0 ≤ (ji3)) = true := decide_eq_true M
     clear M
     by_cases N : (ji3) < (a.length : Int)
     ·rw [if_pos N] at H
      have X : decide ((ji3) < (a.length : Int)) = true := decide_eq_true N
      clear N
      by_cases t : (rd a (ji3)) = 0
      ·rw [if_pos t] at H
       have B : ((rd a (ji3)) == 0) = true := beq_iff_eq.mpr t
       have D : ((rd a (ji3)) != 0) = false := bne_eq_false_iff_eq.mpr t
       clear t
       have C := eq_true (of_decide_eq_true asm : 0 ≤ (ji3))
       by_cases G : (ji3) ≤ (a.length : Int)
       ·rw [if_pos G] at H
        have E := eq_true G
        have K : decide ((ji3) ≤ (a.length : Int)) = true := decide_eq_true G
        clear G
        obtain ⟨j, c⟩ : ∃ y_ : List Int, y_ = (a.take ((ji3) : Int).toNat) := ⟨_, rfl⟩
        replace H : (whole_words_trim.l0 k1 j) = some r := by first | (rw [c]; with_reducible exact H) | (have H2_ := (Option.bind_some _ _).symm.trans H; rw [c]; with_reducible exact H2_) | (have H2_ := (Option.bind_some _ _).symm.trans H; with_reducible exact H2_) | with_reducible exact H | (rw [c]; exact H) | exact H
        have n := Aside0.mk c
        clear c
        have H' := Aside0.mk H
        clear H
        obtain ⟨a0, s, U⟩ := vl b; cases U
        have d : 0 ≤ ((ji3) : Int) := of_decide_eq_true asm
        have i : (ji3) < (a.length : Int) := of_decide_eq_true asm
        obtain ⟨l, o, p⟩ := Kd.at_int (Kd.V_reads' b.out).2.2 (ji3) d i
        cases o
        replace d := eq_true d
        replace i := eq_true i
        have u : ((ji3) : Int) ≤ ((a.length : Int) : Int) := of_decide_eq_true asm
        obtain ⟨i010, hi010, _, hsz10, _⟩ := info_parts info105
        have hroom10 : a.length ≤ s := (Kd.V_reads' b.out).2.1
        have hC10 : Kd.F (Kd.int .u32) _ _ (some l) a.length a := (Kd.V_at (base := w.heap.size) b.out).2.2
        have hcut10 := cut_to (P := Try.prog) 103 105 .i64 Try.underlying103 hi010 (some l) a.length s (ji3) (of_decide_eq_true asm) u hroom10
        have hr10 := Kd.F_take (m := ((ji3) : Int).toNat) hC10 (by omega)
        have q : j.length = ((ji3) : Int).toNat := (by rw [n.out, List.length_take]; omega)
        rw [← n.out] at hr10
        rw [← q] at hcut10
        have v := Aside0.mk (show Kd.V (Kd.int .u32) 105 _ w.heap.size _ (.slice (some l) j.length s) j from Kd.V_mk (by omega) hr10)
        have W := Aside0.mk (show j.length ≤ s from by omega)
        clear hr10 hC10 hroom10 hi010 hsz10
        have KY10 := Aside0.mk q
        clear q
        replace u := eq_true u
        go_wp2
        go_roundg k1
        case measure => have := y.out; omega
        case rel => exact ⟨(j), H', ⟨by have := y.out; omega⟩, ⟨vb v⟩, ⟨bw⟩⟩
       ·rw [if_neg G] at H
        exact absurd H (by simp)
      ·rw [if_neg t] at H
       have B : ((rd a (ji3)) == 0) = false := beq_eq_false_iff_ne.mpr t
       have D : ((rd a (ji3)) != 0) = true := bne_iff_ne.mpr t
       obtain rfl := Option.some.inj H
       obtain ⟨L, Q, I⟩ := vl b; cases I
       have d : 0 ≤ ((ji3) : Int) := of_decide_eq_true asm
       have i : (ji3) < (a.length : Int) := of_decide_eq_true asm
       obtain ⟨l, o, p⟩ := Kd.at_int (Kd.V_reads' b.out).2.2 (ji3) d i
       cases o
       replace d := eq_true d
       replace i := eq_true i
       go_wp2
       go_ret
       exact ⟨_, by first | rfl | (simp [errW_none, errW_some] <;> rfl) | (simp only [← hji3]; first | rfl | (simp [errW_none, errW_some] <;> rfl)) | (simp [*, errW_none, errW_some] <;> rfl), vb b, bw⟩
     ·rw [if_neg N] at H
      exact absurd H (by simp)
    ·rw [if_neg M] at H
     exact absurd H (by simp)
   ·rw [if_neg x] at H
    have z : decide (0 < (a.length : Int)) = false := decide_eq_false x
    have A : decide (0 < a.length) = false := decide_eq_false (by omega)
    clear x
    obtain rfl := Option.some.inj H
    obtain ⟨R, S, J⟩ := vl b; cases J
    go_wp2
    go_ret
    exact ⟨_, er, vb b, bw⟩
mutual
def whole_times.l0 : Nat → List Int → List Int → List Int → Int → Int → Option (List Int)
 | 0, _, _, _, _, _ => none
 | k + 1, x1, x5, x17, x18, x19 => if x19 < x18 then (if 0 ≤ x19 then (if x19 < (x17.length : Int) then (whole_times.l1 k x1 x5 x19 (rd x17 x19) 0 x17 x18 x19 x1 (x1.length : Int) 0) else (none)) else (none)) else ((whole_words_trim.f k x5).bind fun t119 => (some t119))
def whole_times.l1 : Nat → List Int → List Int → Int → Int → Int → List Int → Int → Int → List Int → Int → Int → Option (List Int)
 | 0, _, _, _, _, _, _, _, _, _, _, _ => none
 | k + 1, x1, x5, x6, x7, x8, x17, x18, x19, x24, x25, x26 => if x26 < x25 then (if 0 ≤ x26 then (if x26 < (x24.length : Int) then (if 0 ≤ (wrap64 (x6 + x26)) then (if (wrap64 (x6 + x26)) < (x5.length : Int) then (whole_times.l1 k x1 (x5.set ((wrap64 (x6 + x26)) : Int).toNat ((IntKind.u64.wrap (x8 + (IntKind.u64.wrap ((IntKind.u64.wrap ((IntKind.u64.wrap (x7)) * (IntKind.u64.wrap (rd x24 x26)))) + (IntKind.u64.wrap (rd x5 (wrap64 (x6 + x26)))))))) % 4294967296)) x6 x7 ((IntKind.u64.wrap (x8 + (IntKind.u64.wrap ((IntKind.u64.wrap ((IntKind.u64.wrap (x7)) * (IntKind.u64.wrap (rd x24 x26)))) + (IntKind.u64.wrap (rd x5 (wrap64 (x6 + x26)))))))) / 4294967296) x17 x18 x19 x24 x25 (wrap64 (x26 + 1))) else (none)) else (none)) else (none)) else (none)) else (if 0 ≤ (wrap64 (x6 + (x1.length : Int))) then (if (wrap64 (x6 + (x1.length : Int))) < (x5.length : Int) then (whole_times.l0 k x1 (x5.set ((wrap64 (x6 + (x1.length : Int))) : Int).toNat ((x8) % 4294967296)) x17 x18 (wrap64 (x19 + 1))) else (none)) else (none))
end
def whole_times.f (k : Nat) (l0 : List Int) (l1 : List Int) : Option (List Int) := if 0 ≤ (wrap64 ((l0.length : Int) + (l1.length : Int))) then (if (wrap64 ((l0.length : Int) + (l1.length : Int)) : Int).toNat ≤ 70368744177664 then (whole_times.l0 k l1 (List.replicate (wrap64 ((l0.length : Int) + (l1.length : Int)) : Int).toNat 0) l0 (l0.length : Int) 0) else (none)) else (none)
theorem whole_times.mono_l : ∀ k, (∀ y0 y1 y2 y3 y4, LeO (whole_times.l0 k y0 y1 y2 y3 y4) (whole_times.l0 (k + 1) y0 y1 y2 y3 y4)) ∧ (∀ y0 y1 y2 y3 y4 y5 y6 y7 y8 y9 y10, LeO (whole_times.l1 k y0 y1 y2 y3 y4 y5 y6 y7 y8 y9 y10) (whole_times.l1 (k + 1) y0 y1 y2 y3 y4 y5 y6 y7 y8 y9 y10))
 | 0 => ⟨fun _ _ _ _ _ r h => by simp [whole_times.l0] at h, fun _ _ _ _ _ _ _ _ _ _ _ r h => by simp [whole_times.l1] at h⟩
 | k + 1 => by
  obtain ⟨ih0, ih1⟩ := whole_times.mono_l k
  refine ⟨?_, ?_⟩
  ·intro y0 y1 y2 y3 y4
   unfold whole_times.l0
   repeat' first | with_reducible exact ih0 _ _ _ _ _ | with_reducible exact ih1 _ _ _ _ _ _ _ _ _ _ _ | with_reducible exact whole_words_trim.mono _ _ | with_reducible exact LeO.refl _ | with_reducible exact LeO.none _ | with_reducible refine LeO.ite ?_ ?_ | with_reducible refine LeO.bind ?_ (fun _ => ?_) | exact ih0 _ _ _ _ _ | exact ih1 _ _ _ _ _ _ _ _ _ _ _ | exact whole_words_trim.mono _ _ | exact LeO.none _ | refine LeO.ite ?_ ?_ | refine LeO.bind ?_ (fun _ => ?_)
  ·intro y0 y1 y2 y3 y4 y5 y6 y7 y8 y9 y10
   unfold whole_times.l1
   repeat' first | with_reducible exact ih0 _ _ _ _ _ | with_reducible exact ih1 _ _ _ _ _ _ _ _ _ _ _ | with_reducible exact whole_words_trim.mono _ _ | with_reducible exact LeO.refl _ | with_reducible exact LeO.none _ | with_reducible refine LeO.ite ?_ ?_ | with_reducible refine LeO.bind ?_ (fun _ => ?_) | exact ih0 _ _ _ _ _ | exact ih1 _ _ _ _ _ _ _ _ _ _ _ | exact whole_words_trim.mono _ _ | exact LeO.none _ | refine LeO.ite ?_ ?_ | refine LeO.bind ?_ (fun _ => ?_)
theorem whole_times.mono : ∀ a0 a1 k, LeO (whole_times.f k a0 a1) (whole_times.f (k + 1) a0 a1) := by
 intro a0 a1 k
 obtain ⟨ih0, ih1⟩ := whole_times.mono_l k
 unfold whole_times.f
 repeat' first | with_reducible exact ih0 _ _ _ _ _ | with_reducible exact ih1 _ _ _ _ _ _ _ _ _ _ _ | with_reducible exact whole_words_trim.mono _ _ | with_reducible exact LeO.refl _ | with_reducible exact LeO.none _ | with_reducible refine LeO.ite ?_ ?_ | with_reducible refine LeO.bind ?_ (fun _ => ?_) | exact ih0 _ _ _ _ _ | exact ih1 _ _ _ _ _ _ _ _ _ _ _ | exact whole_words_trim.mono _ _ | exact LeO.none _ | refine LeO.ite ?_ ?_ | refine LeO.bind ?_ (fun _ => ?_)
theorem whole_times.calls (k : Nat) (A0 : Option Addr) (c0 : Nat) (l0 : List Int) (A1 : Option Addr) (c1 : Nat) (l1 : List Int) (r : List Int) (w : World) (hr0 : Kd.C (Kd.int .u32) w A0 l0.length l0) (hc0 : l0.length ≤ c0) (hr1 : Kd.C (Kd.int .u32) w A1 l1.length l1) (hc1 : l1.length ≤ c1) (h : whole_times.f k l0 l1 = some r) :
  Calls Try.prog 55 #[.slice A0 l0.length c0, .slice A1 l1.length c1] w fun e w' => ∃ v0_ : Value, e = .returned (v0_) ∧ Kd.V (Kd.int .u32) 105 w' w.heap.size (fun k_ => (w.heap.size ≤ k_)) v0_ r ∧ Below w.heap.size w w' := by
 have e0 := Aside0.mk hr0
 have f7 := Aside0.mk hc0
 clear hr0 hc0
 have e1 := Aside0.mk hr1
 have f8 := Aside0.mk hc1
 clear hr1 hc1
 have HB := Aside0.mk (Below.refl w.heap.size w)
 have H : (if 0 ≤ (wrap64 ((l0.length : Int) + (l1.length : Int))) then (if (wrap64 ((l0.length : Int) + (l1.length : Int)) : Int).toNat ≤ 70368744177664 then (whole_times.l0 k l1 (List.replicate (wrap64 ((l0.length : Int) + (l1.length : Int)) : Int).toNat 0) l0 (l0.length : Int) 0) else (none)) else (none)) = some r := h
 clear h
 obtain ⟨ji3, hji3⟩ : ∃ j_ : Int, (wrap64 ((l0.length : Int) + (l1.length : Int))) = j_ := ⟨_, rfl⟩
 replace H : (if 0 ≤ (ji3) then (if (ji3 : Int).toNat ≤ 70368744177664 then (whole_times.l0 k l1 (List.replicate (ji3 : Int).toNat 0) l0 (l0.length : Int) 0) else (none)) else (none)) = some r := by first | (rw [hji3] at H; exact H) | (simp only [hji3] at H ⊢; exact H)
 have hji3w : (IntKind.i64.wrap ((l0.length : Int) + (l1.length : Int))) = ji3 := (i64_w _).trans hji3
 by_cases c4 : 0 ≤ (ji3)
 ·rw [if_pos c4] at H
  have Q := eq_true c4
  have S : decide (0 ≤ (ji3)) = true := decide_eq_true c4
  clear c4
  by_cases c5 : (ji3 : Int).toNat ≤ 70368744177664
  ·rw [if_pos c5] at H
   have T := eq_true c5
   have a0 : decide ((ji3 : Int).toNat ≤ 70368744177664) = true := decide_eq_true c5
   clear c5
   obtain ⟨a1, l⟩ : ∃ y_ : List Int, y_ = (List.replicate (ji3 : Int).toNat 0) := ⟨_, rfl⟩
   replace H : (whole_times.l0 k l1 a1 l0 (l0.length : Int) 0) = some r := by first | (rw [l]; with_reducible exact H) | (have H2_ := (Option.bind_some _ _).symm.trans H; rw [l]; with_reducible exact H2_) | (have H2_ := (Option.bind_some _ _).symm.trans H; with_reducible exact H2_) | with_reducible exact H | (rw [l]; exact H) | exact H
   have y := Aside0.mk l
   clear l
   have H' := Aside0.mk H
   clear H
   go_enter Try.func55, Try.ntmps55
   go_wp2_with (first | ((with_reducible refine gd 16 rfl ?_); refine Kd.R_make (Kd.int .u32) _ 105 rfl (N := 16) rfl 103 _ _ rfl ji3 rfl rfl Try.underlying103 (.int .u32 0) 4 info105 rfl (by decide) (by omega) 0 (ok := fun _ => True) (okp := fun _ => True) rfl (fun _ hk => hk) trivial (of_decide_eq_true asm) (Nat.le_trans (Nat.mul_le_mul_right _ (of_decide_eq_true asm : ji3.toNat ≤ 70368744177664)) (by omega)) (Below.refl _ _) (Nat.le_refl _) ?_; intro a2 w6 z hb hg_ hnew_; clear hg_ hnew_; (first | rw [← y.out] at z | (simp only [Int.reduceToNat] at z; rw [← y.out] at z)); have b0 := rL HB (Kd.R_newM (M := fun k_ => (w.heap.size ≤ k_)) z (sz HB) (fun k_ h_ => h_)); replace HB := hB HB hb; clear hb z))
   go_loopg [19] k (fun kq e2 w' => ∃ (m : List Int) (a : Int), e2 = .int .i64 a ∧ Aside0 (whole_times.l0 kq l1 m l0 (l0.length : Int) a = some r) ∧ Aside0 (kq ≤ k) ∧ Aside0 (Kd.R (Kd.int .u32) 105 w' w.heap.size (fun k_ => (w.heap.size ≤ k_)) a2 m) ∧ Aside0 (Below w.heap.size w w'))
   case atStart => exact ⟨(a1), (0), sd, H', ⟨Nat.le_refl _⟩, ⟨by (with_reducible repeat (first | apply Kd.R_alloc | apply Kd.R_drewN | apply Kd.R_drew)); exact Kd.R_mono b0.out (fun _ hk => hk.1)⟩, ⟨bw⟩⟩
   case round =>
    clear H'
    try clear c1
    try clear c4
    try clear Q
    try clear S
    try clear c5
    try clear T
    try clear a0
    obtain ⟨m, a, rfl, HA, W, d, HB⟩ := hrel
    cases gk with
    | zero => exact absurd HA.out (by simp [whole_times.l0])
    | succ k1 =>
     have H := HA.out
     clear HA
     simp only [whole_times.l0] at H
     by_cases c8 : a < (l0.length : Int)
     ·rw [if_pos c8] at H
      have a3 : decide (a < (l0.length : Int)) = true := decide_eq_true c8
      clear c8
      by_cases c9 : 0 ≤ a
      ·rw [if_pos c9] at H
       have c6 : decide (0 ≤ a) = true := decide_eq_true c9
       clear c9
       by_cases A : a < (l0.length : Int)
       ·rw [if_pos A] at H
        have b1 : decide (a < (l0.length : Int)) = true := decide_eq_true A
        clear A
        have H' := Aside0.mk H
        clear H
        have s : 0 ≤ (a : Int) := of_decide_eq_true asm
        have u : a < (l0.length : Int) := of_decide_eq_true asm
        obtain ⟨e3, c7, j⟩ := Kd.at_int e0.out a s u
        cases c7
        replace j := (HB.out.cell (World.block_lt_of_cell? w _ j)).trans j
        replace s := eq_true s
        replace u := eq_true u
        go_wp2
        go_loopg [8, 26] k1 (fun kq v8 e4 w' => ∃ (c : List Int) (i : Int) (b : Int), v8 = .int .u64 i ∧ e4 = .int .i64 b ∧ Aside0 (whole_times.l1 kq l1 c a (rd l0 a) i l0 (l0.length : Int) a l1 (l1.length : Int) b = some r) ∧ Aside0 (kq ≤ k1) ∧ Aside0 (Kd.R (Kd.int .u32) 105 w' w.heap.size (fun k_ => (w.heap.size ≤ k_)) a2 c) ∧ Aside0 (Below w.heap.size w w'))
        case atStart => exact ⟨(m), (0), (0), sd, sd, H', ⟨Nat.le_refl _⟩, ⟨rb d⟩, ⟨bw⟩⟩
        case round =>
         clear H'
         try clear c1
         try clear c4
         try clear Q
         try clear S
         try clear c5
         try clear T
         try clear a0
         try clear c8
         try clear a3
         try clear c9
         try clear c6
         try clear A
         try clear b1
         try clear j
         try clear s
         try clear u
         obtain ⟨c, i, b, rfl, rfl, HA, Y, d, HB⟩ := hrel
         cases gk with
         | zero => exact absurd HA.out (by simp [whole_times.l1])
         | succ k2 =>
          have H := HA.out
          clear HA
          simp only [whole_times.l1] at H
          by_cases x : b < (l1.length : Int)
          ·rw [if_pos x] at H
           have b2 : decide (b < (l1.length : Int)) = true := decide_eq_true x
           clear x
           by_cases X : 0 ≤ b
           ·rw [if_pos X] at H
            have e5 : decide (0 ≤ b) = true := decide_eq_true X
            clear X
            by_cases E : b < (l1.length : Int)
            ·rw [if_pos E] at H
             have e6 : decide (b < (l1.length : Int)) = true := decide_eq_true E
             clear E
             obtain ⟨ji14, hji14⟩ : ∃ j_ : Int, (wrap64 (a + b)) = j_ := ⟨_, rfl⟩
             replace H : (if 0 ≤ (ji14) then (if (ji14) < (c.length : Int) then (whole_times.l1 k2 l1 (c.set ((ji14) : Int).toNat ((IntKind.u64.wrap (i + (IntKind.u64.wrap ((IntKind.u64.wrap ((IntKind.u64.wrap ((rd l0 a))) * (IntKind.u64.wrap (rd l1 b)))) + (IntKind.u64.wrap (rd c (ji14))))))) % 4294967296)) a (rd l0 a) ((IntKind.u64.wrap (i + (IntKind.u64.wrap ((IntKind.u64.wrap ((IntKind.u64.wrap ((rd l0 a))) * (IntKind.u64.wrap (rd l1 b)))) + (IntKind.u64.wrap (rd c (ji14))))))) / 4294967296) l0 (l0.length : Int) a l1 (l1.length : Int) (wrap64 (b + 1))) else (none)) else (none)) = some r := by first | (rw [hji14] at H; exact H) | (simp only [hji14] at H ⊢; exact H)
             have hji14w : (IntKind.i64.wrap (a + b)) = ji14 := (i64_w _).trans hji14
             by_cases F : 0 ≤ (ji14)
             ·rw [if_pos F] at H
              have e7 : decide (0 ≤ (ji14)) = true := decide_eq_true F
              clear F
              by_cases K : (ji14) < (c.length : Int)
              ·rw [if_pos K] at H
               have e8 : decide ((ji14) < (c.length : Int)) = true := decide_eq_true K
               clear K
               obtain ⟨B, n⟩ : ∃ y_ : List Int, y_ = (c.set ((ji14) : Int).toNat ((IntKind.u64.wrap (i + (IntKind.u64.wrap ((IntKind.u64.wrap ((IntKind.u64.wrap ((rd l0 a))) * (IntKind.u64.wrap (rd l1 b)))) + (IntKind.u64.wrap (rd c (ji14))))))) % 4294967296)) := ⟨_, rfl⟩
               replace H : (whole_times.l1 k2 l1 B a (rd l0 a) ((IntKind.u64.wrap (i + (IntKind.u64.wrap ((IntKind.u64.wrap ((IntKind.u64.wrap ((rd l0 a))) * (IntKind.u64.wrap (rd l1 b)))) + (IntKind.u64.wrap (rd c (ji14))))))) / 4294967296) l0 (l0.length : Int) a l1 (l1.length : Int) (wrap64 (b + 1))) = some r := by first | (rw [n]; with_reducible exact H) | (have H2_ := (Option.bind_some _ _).symm.trans H; rw [n]; with_reducible exact H2_) | (have H2_ := (Option.bind_some _ _).symm.trans H; with_reducible exact H2_) | with_reducible exact H | (rw [n]; exact H) | exact H
               have b3 := Aside0.mk n
               clear n
               have H' := Aside0.mk H
               clear H
               have D : 0 ≤ (b : Int) := of_decide_eq_true asm
               have G : b < (l1.length : Int) := of_decide_eq_true asm
               obtain ⟨e9, d0, o⟩ := Kd.at_int e1.out b D G
               cases d0
               replace o := (HB.out.cell (World.block_lt_of_cell? w _ o)).trans o
               replace D := eq_true D
               replace G := eq_true G
               obtain ⟨f4, d1, d2⟩ := sl d; cases d2
               have I : 0 ≤ ((ji14) : Int) := of_decide_eq_true asm
               have J : (ji14) < (c.length : Int) := of_decide_eq_true asm
               obtain ⟨f0, d3, O⟩ := Kd.at_int (Kd.R_reads' d.out).2.2 (ji14) I J
               cases d3
               replace I := eq_true I
               replace J := eq_true J
               have b4 : 0 ≤ ((ji14) : Int) := of_decide_eq_true asm
               have b5 : ((ji14) : Int) < ((c.length : Int) : Int) := of_decide_eq_true asm
               obtain ⟨go17, f5, a4, a5, gl17, cl17, HG17⟩ := Kd.R_form d.out (by omega)
               (first | cases a4 | (injection a4 with ea_ en_ ec_; (first | subst ea_ | (injection ea_ with ea_; subst ea_)); subst ec_; clear en_))
               have GB17 := Aside0.mk a5
               have GG17 := Aside0.mk HG17
               clear a5 gl17 HG17
               (first | simp only [add_plain] at O | skip)
               obtain ⟨d8, hf17_0⟩ := Kd.R_celln 0 d.out ((ji14) : Int) b4 b5
               replace b4 := eq_true b4
               replace b5 := eq_true b5
               have HP19 := Kd.R_putg d.out ((ji14) : Int) ((IntKind.u64.wrap (i + (IntKind.u64.wrap ((IntKind.u64.wrap ((IntKind.u64.wrap ((rd l0 a))) * (IntKind.u64.wrap (rd l1 b)))) + (IntKind.u64.wrap (rd c (ji14))))))) % 4294967296)
               go_wp2_with (first | ((with_reducible refine gate_store (t := 105) (p := 52) rfl ?_); refine store_event (t := 105) (p := 52) (v := ?vo_w20) (w1 := (wr.setCell ⟨go17, ((ji14) : Int).toNat, none⟩ (.int .u32 ((IntKind.u64.wrap (i + (IntKind.u64.wrap ((IntKind.u64.wrap ((IntKind.u64.wrap ((rd l0 a))) * (IntKind.u64.wrap (rd l1 b)))) + (IntKind.u64.wrap (rd c (ji14))))))) % 4294967296)))) ?hg ?ho ?hn ?hr ?_; (case ho => rfl); (case hg => rfl); (case hn => rfl); (case hr => first | (go_simp; done) | (go_simp; rfl)); intro b6 hw; have hg : wr.grownBy b6 (some go17) := (by rw [hw]; exact HP19.2); have hp_ : Kd.R (Kd.int .u32) 105 b6 w.heap.size (fun k_ => (w.heap.size ≤ k_)) (.slice (some ⟨go17, 0, none⟩) c.length d1) B := (by rw [hw, b3.out]; exact HP19.1); clear HP19; replace d := Aside0.mk hp_; replace HB := Aside0.mk ((by rw [hw]; exact below_set (HB.out) GB17.out : Below w.heap.size w b6)); clear hg hw hp_))
               go_roundg k2
               case measure => have := W.out; have := Y.out; omega
               case rel => exact ⟨(B), ((IntKind.u64.wrap (i + (IntKind.u64.wrap ((IntKind.u64.wrap ((IntKind.u64.wrap ((rd l0 a))) * (IntKind.u64.wrap (rd l1 b)))) + (IntKind.u64.wrap (rd c (ji14))))))) / 4294967296), (wrap64 (b + 1)), (by first | rfl | (simp; done) | (simp only [← hji14] <;> (first | rfl | simp)) | (simp [*]; done)), sd, H', ⟨by have := W.out; have := Y.out; omega⟩, ⟨rb d⟩, ⟨bw⟩⟩
              ·rw [if_neg K] at H
               exact absurd H (by simp)
             ·rw [if_neg F] at H
              exact absurd H (by simp)
            ·rw [if_neg E] at H
             exact absurd H (by simp)
           ·rw [if_neg X] at H
            exact absurd H (by simp)
          ·rw [if_neg x] at H
           have b2 : decide (b < (l1.length : Int)) = false := decide_eq_false x
           clear x
           obtain ⟨ji21, hji21⟩ : ∃ j_ : Int, (wrap64 (a + (l1.length : Int))) = j_ := ⟨_, rfl⟩
           replace H : (if 0 ≤ (ji21) then (if (ji21) < (c.length : Int) then (whole_times.l0 k2 l1 (c.set ((ji21) : Int).toNat ((i) % 4294967296)) l0 (l0.length : Int) (wrap64 (a + 1))) else (none)) else (none)) = some r := by first | (rw [hji21] at H; exact H) | (simp only [hji21] at H ⊢; exact H)
           have hji21w : (IntKind.i64.wrap (a + (l1.length : Int))) = ji21 := (i64_w _).trans hji21
           by_cases L : 0 ≤ (ji21)
           ·rw [if_pos L] at H
            have f1 : decide (0 ≤ (ji21)) = true := decide_eq_true L
            clear L
            by_cases P : (ji21) < (c.length : Int)
            ·rw [if_pos P] at H
             have f2 : decide ((ji21) < (c.length : Int)) = true := decide_eq_true P
             clear P
             obtain ⟨U, q⟩ : ∃ y_ : List Int, y_ = (c.set ((ji21) : Int).toNat ((i) % 4294967296)) := ⟨_, rfl⟩
             replace H : (whole_times.l0 k2 l1 U l0 (l0.length : Int) (wrap64 (a + 1))) = some r := by first | (rw [q]; with_reducible exact H) | (have H2_ := (Option.bind_some _ _).symm.trans H; rw [q]; with_reducible exact H2_) | (have H2_ := (Option.bind_some _ _).symm.trans H; with_reducible exact H2_) | with_reducible exact H | (rw [q]; exact H) | exact H
             have b7 := Aside0.mk q
             clear q
             have H' := Aside0.mk H
             clear H
             have b8 : 0 ≤ ((ji21) : Int) := of_decide_eq_true asm
             have b9 : ((ji21) : Int) < ((c.length : Int) : Int) := of_decide_eq_true asm
             obtain ⟨go24, d4, a6, a7, gl24, cl24, HG24⟩ := Kd.R_form d.out (by omega)
             (first | cases a6 | (injection a6 with ea_ en_ ec_; (first | subst ea_ | (injection ea_ with ea_; subst ea_)); subst ec_; clear en_))
             have GB24 := Aside0.mk a7
             have GG24 := Aside0.mk HG24
             clear a7 gl24 HG24
             obtain ⟨d9, hf24_0⟩ := Kd.R_celln 0 d.out ((ji21) : Int) b8 b9
             replace b8 := eq_true b8
             replace b9 := eq_true b9
             have HP25 := Kd.R_putg d.out ((ji21) : Int) ((i) % 4294967296)
             go_wp2_with (first | ((with_reducible refine gate_store (t := 105) (p := 63) rfl ?_); refine store_event (t := 105) (p := 63) (v := ?vo_w26) (w1 := (wr.setCell ⟨go24, ((ji21) : Int).toNat, none⟩ (.int .u32 ((i) % 4294967296)))) ?hg ?ho ?hn ?hr ?_; (case ho => rfl); (case hg => rfl); (case hn => rfl); (case hr => first | (go_simp; done) | (go_simp; rfl)); intro c2 hw; have hg : wr.grownBy c2 (some go24) := (by rw [hw]; exact HP25.2); have hp_ : Kd.R (Kd.int .u32) 105 c2 w.heap.size (fun k_ => (w.heap.size ≤ k_)) (.slice (some ⟨go24, 0, none⟩) c.length d4) U := (by rw [hw, b7.out]; exact HP25.1); clear HP25; replace d := Aside0.mk hp_; replace HB := Aside0.mk ((by rw [hw]; exact below_set (HB.out) GB24.out : Below w.heap.size w c2)); clear hg hw hp_))
             go_roundg k2
             case measure => have := W.out; have := Y.out; omega
             case rel => exact ⟨(U), (wrap64 (a + 1)), sd, H', ⟨by have := W.out; have := Y.out; omega⟩, ⟨rb d⟩, ⟨bw⟩⟩
            ·rw [if_neg P] at H
             exact absurd H (by simp)
           ·rw [if_neg L] at H
            exact absurd H (by simp)
       ·rw [if_neg A] at H
        exact absurd H (by simp)
      ·rw [if_neg c9] at H
       exact absurd H (by simp)
     ·rw [if_neg c8] at H
      have a3 : decide (a < (l0.length : Int)) = false := decide_eq_false c8
      clear c8
      obtain ⟨d5, f3, H⟩ := bs H
      obtain rfl := Option.some.inj H
      obtain ⟨a8, a9, d6⟩ := sl d; cases d6
      go_wp2_with (first | ((with_reducible refine ga 56 rfl ?_); refine gc (some 66) Try.func56 #[.slice a8 m.length a9] (whole_words_trim.calls k1 (fun k_ => some k_ = (.slice a8 m.length a9 : Value).ownBlock) _ _ m d5 _ (Kd.R_V (Kd.R_tight rfl (d.out))) f3.out) ?_; rintro e f9 ⟨f6, rfl, d7, hb⟩; refine ⟨_, rfl, ?_⟩; have c3 := Aside0.mk (Kd.V_lower (Kd.V_mono (ok' := fun k_ => (w.heap.size ≤ k_)) d7 (fun k_ hk_ => Or.elim hk_ (fun hs_ => ((d.out).1 k_ hs_.symm)) (fun hn_ => (Nat.le_trans (sz HB) hn_)))) (sz HB)); replace d := rB d hb; replace HB := hB HB hb; clear hb d7))
      go_ret
      exact ⟨_, by first | rfl | (simp [errW_none, errW_some] <;> rfl) | (simp only [← hji3]; first | rfl | (simp [errW_none, errW_some] <;> rfl)) | (simp [*, errW_none, errW_some] <;> rfl), vb c3, bw⟩
  ·rw [if_neg c5] at H
   exact absurd H (by simp)
 ·rw [if_neg c4] at H
  exact absurd H (by simp)
def stringslite_HasPrefix.f (a0 : ByteArray) (a1 : ByteArray) : Option (Bool) := if (a0.size : Int) ≥ (a1.size : Int) then (if 0 ≤ (a1.size : Int) then (if (a1.size : Int) ≤ (a0.size : Int) then (some ((a0.extract 0 ((a1.size : Int) : Int).toNat).toList == a1.toList)) else (none)) else (none)) else (some false)
theorem stringslite_HasPrefix.calls (a0 : ByteArray) (a1 : ByteArray) (r : Bool) (w : World) (h : stringslite_HasPrefix.f a0 a1 = some r) :
  Calls Try.prog 71 #[.string a0, .string a1] w fun e w' => e = .returned (.bool r) ∧ Drawn0 w w' := by
 have H : (if (a0.size : Int) ≥ (a1.size : Int) then (if 0 ≤ (a1.size : Int) then (if (a1.size : Int) ≤ (a0.size : Int) then (some ((a0.extract 0 ((a1.size : Int) : Int).toNat).toList == a1.toList)) else (none)) else (none)) else (some false)) = some r := h
 clear h
 by_cases a : (a0.size : Int) ≥ (a1.size : Int)
 ·rw [if_pos a] at H
  have b : decide ((a1.size : Int) ≤ (a0.size : Int)) = true := decide_eq_true a
  have c : decide (a1.size ≤ a0.size) = true := decide_eq_true (Int.ofNat_le.mp a)
  clear a
  by_cases d : 0 ≤ (a1.size : Int)
  ·rw [if_pos d] at H
   have j := eq_true d
   have k : decide (0 ≤ (a1.size : Int)) = true := decide_eq_true d
   clear d
   by_cases i : (a1.size : Int) ≤ (a0.size : Int)
   ·rw [if_pos i] at H
    have l := eq_true i
    have m : decide ((a1.size : Int) ≤ (a0.size : Int)) = true := decide_eq_true i
    clear i
    obtain rfl := Option.some.inj H
    go_enter Try.func71, Try.ntmps71
    go_wp2
    go_ret
    exact ⟨sd, by repeat (first | exact Drawn0.refl _ | apply Drawn0.step)⟩
   ·rw [if_neg i] at H
    exact absurd H (by simp)
  ·rw [if_neg d] at H
   exact absurd H (by simp)
 ·rw [if_neg a] at H
  have b : decide ((a1.size : Int) ≤ (a0.size : Int)) = false := decide_eq_false a
  have c : decide (a1.size ≤ a0.size) = false := decide_eq_false (fun h => a (Int.ofNat_le.mpr h))
  clear a
  obtain rfl := Option.some.inj H
  go_enter Try.func71, Try.ntmps71
  go_wp2
  go_ret
  exact ⟨sd, by repeat (first | exact Drawn0.refl _ | apply Drawn0.step)⟩
def stringslite_CutPrefix.f (a0 : ByteArray) (a1 : ByteArray) : Option (ByteArray × Bool) := (stringslite_HasPrefix.f a0 a1).bind fun t107 => (if t107 = true then (if 0 ≤ (a1.size : Int) then (if (a1.size : Int) ≤ (a0.size : Int) then (some (a0.extract ((a1.size : Int) : Int).toNat a0.size, true)) else (none)) else (none)) else (some (a0, false)))
theorem stringslite_CutPrefix.calls (a0 : ByteArray) (a1 : ByteArray) (r1 : ByteArray) (r2 : Bool) (w : World) (h : stringslite_CutPrefix.f a0 a1 = some (r1, r2)) :
  Calls Try.prog 65 #[.string a0, .string a1] w fun e w' => e = .returned (.tuple #[.string r1, .bool r2]) ∧ Drawn0 w w' := by
 have H : ((stringslite_HasPrefix.f a0 a1).bind fun a => (if a = true then (if 0 ≤ (a1.size : Int) then (if (a1.size : Int) ≤ (a0.size : Int) then (some (a0.extract ((a1.size : Int) : Int).toNat a0.size, true)) else (none)) else (none)) else (some (a0, false)))) = some (r1, r2) := h
 clear h
 obtain ⟨a, i, H⟩ := bs H
 by_cases d : a = true
 ·subst d
  replace H := ip H
  by_cases b : 0 ≤ (a1.size : Int)
  ·rw [if_pos b] at H
   have j := eq_true b
   have k : decide (0 ≤ (a1.size : Int)) = true := decide_eq_true b
   clear b
   by_cases c : (a1.size : Int) ≤ (a0.size : Int)
   ·rw [if_pos c] at H
    have l := eq_true c
    have m : decide ((a1.size : Int) ≤ (a0.size : Int)) = true := decide_eq_true c
    clear c
    simp only [Option.some.injEq, Prod.mk.injEq] at H
    obtain ⟨rfl, rfl⟩ := H
    go_enter Try.func65, Try.ntmps65
    go_wp2_with (first | ((with_reducible refine ga 71 rfl ?_); refine gc (some 8) Try.func71 #[.string a0, .string a1] (stringslite_HasPrefix.calls a0 a1 true _ i.out) ?_; rintro e w' ⟨rfl, ⟨nd, rfl⟩⟩; refine ⟨_, rfl, ?_⟩))
    go_ret2
    exact ⟨sd, by repeat (first | exact Drawn0.refl _ | apply Drawn0.step)⟩
   ·rw [if_neg c] at H
    exact absurd H (by simp)
  ·rw [if_neg b] at H
   exact absurd H (by simp)
 ·replace d := Bool.eq_false_iff.mpr d
  subst d
  replace H := iq H
  simp only [Option.some.injEq, Prod.mk.injEq] at H
  obtain ⟨rfl, rfl⟩ := H
  go_enter Try.func65, Try.ntmps65
  go_wp2_with (first | ((with_reducible refine ga 71 rfl ?_); refine gc (some 8) Try.func71 #[.string a0, .string a1] (stringslite_HasPrefix.calls a0 a1 false _ i.out) ?_; rintro e w' ⟨rfl, ⟨nd, rfl⟩⟩; refine ⟨_, rfl, ?_⟩))
  go_ret2
  exact ⟨sd, by repeat (first | exact Drawn0.refl _ | apply Drawn0.step)⟩
def strings_CutPrefix.f (a0 : ByteArray) (a1 : ByteArray) : Option (ByteArray × Bool) := (stringslite_CutPrefix.f a0 a1).bind fun bt108 => (some (bt108.1, bt108.2))
theorem strings_CutPrefix.calls (a0 : ByteArray) (a1 : ByteArray) (r1 : ByteArray) (r2 : Bool) (w : World) (h : strings_CutPrefix.f a0 a1 = some (r1, r2)) :
  Calls Try.prog 51 #[.string a0, .string a1] w fun e w' => e = .returned (.tuple #[.string r1, .bool r2]) ∧ Drawn0 w w' := by
 have H : ((stringslite_CutPrefix.f a0 a1).bind fun bt108 => (some (bt108.1, bt108.2))) = some (r1, r2) := h
 clear h
 obtain ⟨⟨t108, t109⟩, A3, H⟩ := bs H
 simp only [Option.some.injEq, Prod.mk.injEq] at H
 obtain ⟨rfl, rfl⟩ := H
 go_enter Try.func51, Try.ntmps51
 go_wp2_with (first | ((with_reducible refine ga 65 rfl ?_); refine gc (some 8) Try.func65 #[.string a0, .string a1] (stringslite_CutPrefix.calls a0 a1 t108 t109 _ A3.out) ?_; rintro e w' ⟨rfl, ⟨nd, rfl⟩⟩; refine ⟨_, rfl, ?_⟩))
 go_ret2
 exact ⟨sd, by repeat (first | exact Drawn0.refl _ | apply Drawn0.step)⟩
end Go.Proofs.Ytpodpmjlkbbkoaa.P
