import Derived.Test.YtpodpmjlkbbkoaaQCRD1
import Derived.Test.YtpodpmjlkbbkoaaQCZ2
set_option linter.all false
namespace Go.Proofs.Ytpodpmjlkbbkoaa.P
open Go.RowKit Go.Proofs.YtpodpmjlkbbkoaaW.PrintWords Go.Proofs.YtpodpmjlkbbkoaaW.PrintLast Go.Proofs.YtpodpmjlkbbkoaaW.PrintMore
attribute [local go_sem] max2_int min2_int max_two min_two max_three min_three max_four min_four
set_option maxHeartbeats 16000000
set_option maxRecDepth 100000
def whole_plus1.l0 : Nat → List Int → List Int → List Int → Int → Int → Int → Option (List Int)
 | 0, _, _, _, _, _, _ => none
 | k + 1, x0, x1, x5, x6, x20, x21 => if x21 < x20 then (if 0 ≤ x21 then (if x21 < (x0.length : Int) then (if x21 < (x1.length : Int) then (if x21 < (x5.length : Int) then (whole_plus1.l0 k x0 x1 (x5.set (x21 : Int).toNat ((IntKind.u64.wrap ((IntKind.u64.wrap (x6 + (IntKind.u64.wrap (rd x0 x21)))) + (IntKind.u64.wrap (rd x1 x21)))) % 4294967296)) ((IntKind.u64.wrap ((IntKind.u64.wrap (x6 + (IntKind.u64.wrap (rd x0 x21)))) + (IntKind.u64.wrap (rd x1 x21)))) / 4294967296) x20 (wrap64 (x21 + 1))) else (none)) else (if x21 < (x5.length : Int) then (whole_plus1.l0 k x0 x1 (x5.set (x21 : Int).toNat ((IntKind.u64.wrap (x6 + (IntKind.u64.wrap (rd x0 x21)))) % 4294967296)) ((IntKind.u64.wrap (x6 + (IntKind.u64.wrap (rd x0 x21)))) / 4294967296) x20 (wrap64 (x21 + 1))) else (none))) else (none)) else (none)) else (if 0 ≤ (x0.length : Int) then (if (x0.length : Int) < (x5.length : Int) then ((whole_words_trim.f k (x5.set ((x0.length : Int) : Int).toNat ((x6) % 4294967296))).bind fun t115 => (some t115)) else (none)) else (none))
def whole_plus1.f (k : Nat) (l0 : List Int) (l1 : List Int) : Option (List Int) := if 0 ≤ (wrap64 ((l0.length : Int) + 1)) then (if (wrap64 ((l0.length : Int) + 1) : Int).toNat ≤ 70368744177664 then (whole_plus1.l0 k l0 l1 (List.replicate (wrap64 ((l0.length : Int) + 1) : Int).toNat 0) 0 (l0.length : Int) 0) else (none)) else (none)
theorem whole_plus1.mono_l : ∀ k, (∀ y0 y1 y2 y3 y4 y5, LeO (whole_plus1.l0 k y0 y1 y2 y3 y4 y5) (whole_plus1.l0 (k + 1) y0 y1 y2 y3 y4 y5))
 | 0 => fun _ _ _ _ _ _ r h => by simp [whole_plus1.l0] at h
 | k + 1 => by
  have ih0 := whole_plus1.mono_l k
  ·intro y0 y1 y2 y3 y4 y5
   unfold whole_plus1.l0
   repeat' first | with_reducible exact ih0 _ _ _ _ _ _ | with_reducible exact whole_words_trim.mono _ _ | with_reducible exact LeO.refl _ | with_reducible exact LeO.none _ | with_reducible refine LeO.ite ?_ ?_ | with_reducible refine LeO.bind ?_ (fun _ => ?_) | exact ih0 _ _ _ _ _ _ | exact whole_words_trim.mono _ _ | exact LeO.none _ | refine LeO.ite ?_ ?_ | refine LeO.bind ?_ (fun _ => ?_)
theorem whole_plus1.mono : ∀ a0 a1 k, LeO (whole_plus1.f k a0 a1) (whole_plus1.f (k + 1) a0 a1) := by
 intro a0 a1 k
 have ih0 := whole_plus1.mono_l k
 unfold whole_plus1.f
 repeat' first | with_reducible exact ih0 _ _ _ _ _ _ | with_reducible exact whole_words_trim.mono _ _ | with_reducible exact LeO.refl _ | with_reducible exact LeO.none _ | with_reducible refine LeO.ite ?_ ?_ | with_reducible refine LeO.bind ?_ (fun _ => ?_) | exact ih0 _ _ _ _ _ _ | exact whole_words_trim.mono _ _ | exact LeO.none _ | refine LeO.ite ?_ ?_ | refine LeO.bind ?_ (fun _ => ?_)
theorem whole_plus1.ge (k : Nat) (A0 : Option Addr) (c0 : Nat) (l0 : List Int) (A1 : Option Addr) (c1 : Nat) (l1 : List Int) (r : List Int) (w : World) (hr0 : Kd.C (Kd.int .u32) w A0 l0.length l0) (hc0 : l0.length ≤ c0) (hr1 : Kd.C (Kd.int .u32) w A1 l1.length l1) (hc1 : l1.length ≤ c1) (hge : decide (l0.length < l1.length) = false) (h : whole_plus1.f k l0 l1 = some r) :
  Calls Try.prog 54 #[.slice A0 l0.length c0, .slice A1 l1.length c1] w fun e w' => ∃ v0_ : Value, e = .returned (v0_) ∧ Kd.V (Kd.int .u32) 105 w' w.heap.size (fun k_ => (w.heap.size ≤ k_)) v0_ r ∧ Below w.heap.size w w' := by
 have b8 := Aside0.mk hr0
 have f0 := Aside0.mk hc0
 clear hr0 hc0
 have d7 := Aside0.mk hr1
 have f1 := Aside0.mk hc1
 clear hr1 hc1
 have HB := Aside0.mk (Below.refl w.heap.size w)
 have H : (if 0 ≤ (wrap64 ((l0.length : Int) + 1)) then (if (wrap64 ((l0.length : Int) + 1) : Int).toNat ≤ 70368744177664 then (whole_plus1.l0 k l0 l1 (List.replicate (wrap64 ((l0.length : Int) + 1) : Int).toNat 0) 0 (l0.length : Int) 0) else (none)) else (none)) = some r := h
 clear h
 obtain ⟨ji3, hji3⟩ : ∃ j_ : Int, (wrap64 ((l0.length : Int) + 1)) = j_ := ⟨_, rfl⟩
 replace H : (if 0 ≤ (ji3) then (if (ji3 : Int).toNat ≤ 70368744177664 then (whole_plus1.l0 k l0 l1 (List.replicate (ji3 : Int).toNat 0) 0 (l0.length : Int) 0) else (none)) else (none)) = some r := by first | (rw [hji3] at H; exact H) | (simp only [hji3] at H ⊢; exact H)
 have hji3w : (IntKind.i64.wrap ((l0.length : Int) + 1)) = ji3 := (i64_w _).trans hji3
 by_cases c4 : 0 ≤ (ji3)
 ·rw [if_pos c4] at H
  have b9 := eq_true c4
  have c2 : decide (0 ≤ (ji3)) = true := decide_eq_true c4
  clear c4
  by_cases c5 : (ji3 : Int).toNat ≤ 70368744177664
  ·rw [if_pos c5] at H
   have c3 := eq_true c5
   have c6 : decide ((ji3 : Int).toNat ≤ 70368744177664) = true := decide_eq_true c5
   clear c5
   obtain ⟨L, j⟩ : ∃ y_ : List Int, y_ = (List.replicate (ji3 : Int).toNat 0) := ⟨_, rfl⟩
   replace H : (whole_plus1.l0 k l0 l1 L 0 (l0.length : Int) 0) = some r := by first | (rw [j]; with_reducible exact H) | (have H2_ := (Option.bind_some _ _).symm.trans H; rw [j]; with_reducible exact H2_) | (have H2_ := (Option.bind_some _ _).symm.trans H; with_reducible exact H2_) | with_reducible exact H | (rw [j]; exact H) | exact H
   have y := Aside0.mk j
   clear j
   have H' := Aside0.mk H
   clear H
   go_enter Try.func54, Try.ntmps54
   go_wp2_with (first | ((with_reducible refine gd 18 rfl ?_); refine Kd.R_make (Kd.int .u32) _ 105 rfl (N := 18) rfl 103 _ _ rfl ji3 rfl rfl Try.underlying103 (.int .u32 0) 4 info105 rfl (by decide) (by omega) 0 (ok := fun _ => True) (okp := fun _ => True) rfl (fun _ hk => hk) trivial (of_decide_eq_true asm) (Nat.le_trans (Nat.mul_le_mul_right _ (of_decide_eq_true asm : ji3.toNat ≤ 70368744177664)) (by omega)) (Below.refl _ _) (Nat.le_refl _) ?_; intro c7 w6 z hb hg_ hnew_; clear hg_ hnew_; (first | rw [← y.out] at z | (simp only [Int.reduceToNat] at z; rw [← y.out] at z)); have a2 := rL HB (Kd.R_newM (M := fun k_ => (w.heap.size ≤ k_)) z (sz HB) (fun k_ h_ => h_)); replace HB := hB HB hb; clear hb z))
   go_loopg [6, 21] k (fun kq v6 d8 w' => ∃ (b : List Int) (d : Int) (a : Int), v6 = .int .u64 d ∧ d8 = .int .i64 a ∧ Aside0 (whole_plus1.l0 kq l0 l1 b d (l0.length : Int) a = some r) ∧ Aside0 (kq ≤ k) ∧ Aside0 (Kd.R (Kd.int .u32) 105 w' w.heap.size (fun k_ => (w.heap.size ≤ k_)) c7 b) ∧ Aside0 (Below w.heap.size w w'))
   case atStart => exact ⟨(L), (0), (0), sd, sd, H', ⟨Nat.le_refl _⟩, ⟨by (with_reducible repeat (first | apply Kd.R_alloc | apply Kd.R_drewN | apply Kd.R_drew)); exact Kd.R_mono a2.out (fun _ hk => hk.1)⟩, ⟨bw⟩⟩
   case round =>
    clear H'
    try clear c1
    try clear c4
    try clear b9
    try clear c2
    try clear c5
    try clear c3
    try clear c6
    obtain ⟨b, d, a, rfl, rfl, HA, W, c, HB⟩ := hrel
    cases gk with
    | zero => exact absurd HA.out (by simp [whole_plus1.l0])
    | succ k1 =>
     have H := HA.out
     clear HA
     simp only [whole_plus1.l0] at H
     by_cases c8 : a < (l0.length : Int)
     ·rw [if_pos c8] at H
      have d0 : decide (a < (l0.length : Int)) = true := decide_eq_true c8
      clear c8
      by_cases c9 : 0 ≤ a
      ·rw [if_pos c9] at H
       have e8 : decide (0 ≤ a) = true := decide_eq_true c9
       clear c9
       by_cases Y : a < (l0.length : Int)
       ·rw [if_pos Y] at H
        have d9 : decide (a < (l0.length : Int)) = true := decide_eq_true Y
        clear Y
        by_cases x : a < (l1.length : Int)
        ·rw [if_pos x] at H
         have a3 : decide (a < (l1.length : Int)) = true := decide_eq_true x
         clear x
         by_cases X : a < (b.length : Int)
         ·rw [if_pos X] at H
          have e0 : decide (a < (b.length : Int)) = true := decide_eq_true X
          clear X
          obtain ⟨A, l⟩ : ∃ y_ : List Int, y_ = (b.set (a : Int).toNat ((IntKind.u64.wrap ((IntKind.u64.wrap (d + (IntKind.u64.wrap (rd l0 a)))) + (IntKind.u64.wrap (rd l1 a)))) % 4294967296)) := ⟨_, rfl⟩
          replace H : (whole_plus1.l0 k1 l0 l1 A ((IntKind.u64.wrap ((IntKind.u64.wrap (d + (IntKind.u64.wrap (rd l0 a)))) + (IntKind.u64.wrap (rd l1 a)))) / 4294967296) (l0.length : Int) (wrap64 (a + 1))) = some r := by first | (rw [l]; with_reducible exact H) | (have H2_ := (Option.bind_some _ _).symm.trans H; rw [l]; with_reducible exact H2_) | (have H2_ := (Option.bind_some _ _).symm.trans H; with_reducible exact H2_) | with_reducible exact H | (rw [l]; exact H) | exact H
          have a4 := Aside0.mk l
          clear l
          have H' := Aside0.mk H
          clear H
          have m : 0 ≤ (a : Int) := of_decide_eq_true asm
          have n : a < (l0.length : Int) := of_decide_eq_true asm
          obtain ⟨a5, B, i⟩ := Kd.at_int b8.out a m n
          cases B
          replace i := (HB.out.cell (World.block_lt_of_cell? w _ i)).trans i
          replace m := eq_true m
          replace n := eq_true n
          have D : 0 ≤ (a : Int) := of_decide_eq_true asm
          have G : a < (l1.length : Int) := of_decide_eq_true asm
          obtain ⟨e1, d1, o⟩ := Kd.at_int d7.out a D G
          cases d1
          replace o := (HB.out.cell (World.block_lt_of_cell? w _ o)).trans o
          replace D := eq_true D
          replace G := eq_true G
          have a6 : 0 ≤ (a : Int) := of_decide_eq_true asm
          have a7 : (a : Int) < ((b.length : Int) : Int) := of_decide_eq_true asm
          obtain ⟨go13, d2, P, Q, gl13, cl13, HG13⟩ := Kd.R_form c.out (by omega)
          (first | cases P | (injection P with ea_ en_ ec_; (first | subst ea_ | (injection ea_ with ea_; subst ea_)); subst ec_; clear en_))
          have GB13 := Aside0.mk Q
          have GG13 := Aside0.mk HG13
          clear Q gl13 HG13
          obtain ⟨d5, hf13_0⟩ := Kd.R_celln 0 c.out (a : Int) a6 a7
          replace a6 := eq_true a6
          replace a7 := eq_true a7
          have HP14 := Kd.R_putg c.out (a : Int) ((IntKind.u64.wrap ((IntKind.u64.wrap (d + (IntKind.u64.wrap (rd l0 a)))) + (IntKind.u64.wrap (rd l1 a)))) % 4294967296)
          go_wp2_with (first | ((with_reducible refine gate_store (t := 105) (p := 46) rfl ?_); refine store_event (t := 105) (p := 46) (v := ?vo_w15) (w1 := (wr.setCell ⟨go13, (a : Int).toNat, none⟩ (.int .u32 ((IntKind.u64.wrap ((IntKind.u64.wrap (d + (IntKind.u64.wrap (rd l0 a)))) + (IntKind.u64.wrap (rd l1 a)))) % 4294967296)))) ?hg ?ho ?hn ?hr ?_; (case ho => rfl); (case hg => rfl); (case hn => rfl); (case hr => first | (go_simp; done) | (go_simp; rfl)); intro a8 hw; have hg : wr.grownBy a8 (some go13) := (by rw [hw]; exact HP14.2); have hp_ : Kd.R (Kd.int .u32) 105 a8 w.heap.size (fun k_ => (w.heap.size ≤ k_)) (.slice (some ⟨go13, 0, none⟩) b.length d2) A := (by rw [hw, a4.out]; exact HP14.1); clear HP14; replace c := Aside0.mk hp_; replace HB := Aside0.mk ((by rw [hw]; exact below_set (HB.out) GB13.out : Below w.heap.size w a8)); clear hg hw hp_))
          go_roundg k1
          case measure => have := W.out; omega
          case rel => exact ⟨(A), ((IntKind.u64.wrap ((IntKind.u64.wrap (d + (IntKind.u64.wrap (rd l0 a)))) + (IntKind.u64.wrap (rd l1 a)))) / 4294967296), (wrap64 (a + 1)), sd, sd, H', ⟨by have := W.out; omega⟩, ⟨rb c⟩, ⟨bw⟩⟩
         ·rw [if_neg X] at H
          exact absurd H (by simp)
        ·rw [if_neg x] at H
         have a3 : decide (a < (l1.length : Int)) = false := decide_eq_false x
         clear x
         by_cases E : a < (b.length : Int)
         ·rw [if_pos E] at H
          have e2 : decide (a < (b.length : Int)) = true := decide_eq_true E
          clear E
          obtain ⟨I, q⟩ : ∃ y_ : List Int, y_ = (b.set (a : Int).toNat ((IntKind.u64.wrap (d + (IntKind.u64.wrap (rd l0 a)))) % 4294967296)) := ⟨_, rfl⟩
          replace H : (whole_plus1.l0 k1 l0 l1 I ((IntKind.u64.wrap (d + (IntKind.u64.wrap (rd l0 a)))) / 4294967296) (l0.length : Int) (wrap64 (a + 1))) = some r := by first | (rw [q]; with_reducible exact H) | (have H2_ := (Option.bind_some _ _).symm.trans H; rw [q]; with_reducible exact H2_) | (have H2_ := (Option.bind_some _ _).symm.trans H; with_reducible exact H2_) | with_reducible exact H | (rw [q]; exact H) | exact H
          have a9 := Aside0.mk q
          clear q
          have H' := Aside0.mk H
          clear H
          have m : 0 ≤ (a : Int) := of_decide_eq_true asm
          have n : a < (l0.length : Int) := of_decide_eq_true asm
          obtain ⟨a5, B, i⟩ := Kd.at_int b8.out a m n
          cases B
          replace i := (HB.out.cell (World.block_lt_of_cell? w _ i)).trans i
          replace m := eq_true m
          replace n := eq_true n
          have b0 : 0 ≤ (a : Int) := of_decide_eq_true asm
          have b1 : (a : Int) < ((b.length : Int) : Int) := of_decide_eq_true asm
          obtain ⟨go17, d3, S, T, gl17, cl17, HG17⟩ := Kd.R_form c.out (by omega)
          (first | cases S | (injection S with ea_ en_ ec_; (first | subst ea_ | (injection ea_ with ea_; subst ea_)); subst ec_; clear en_))
          have GB17 := Aside0.mk T
          have GG17 := Aside0.mk HG17
          clear T gl17 HG17
          obtain ⟨d6, hf17_0⟩ := Kd.R_celln 0 c.out (a : Int) b0 b1
          replace b0 := eq_true b0
          replace b1 := eq_true b1
          have HP18 := Kd.R_putg c.out (a : Int) ((IntKind.u64.wrap (d + (IntKind.u64.wrap (rd l0 a)))) % 4294967296)
          go_wp2_with (first | ((with_reducible refine gate_store (t := 105) (p := 46) rfl ?_); refine store_event (t := 105) (p := 46) (v := ?vo_w19) (w1 := (wr.setCell ⟨go17, (a : Int).toNat, none⟩ (.int .u32 ((IntKind.u64.wrap (d + (IntKind.u64.wrap (rd l0 a)))) % 4294967296)))) ?hg ?ho ?hn ?hr ?_; (case ho => rfl); (case hg => rfl); (case hn => rfl); (case hr => first | (go_simp; done) | (go_simp; rfl)); intro b2 hw; have hg : wr.grownBy b2 (some go17) := (by rw [hw]; exact HP18.2); have hp_ : Kd.R (Kd.int .u32) 105 b2 w.heap.size (fun k_ => (w.heap.size ≤ k_)) (.slice (some ⟨go17, 0, none⟩) b.length d3) I := (by rw [hw, a9.out]; exact HP18.1); clear HP18; replace c := Aside0.mk hp_; replace HB := Aside0.mk ((by rw [hw]; exact below_set (HB.out) GB17.out : Below w.heap.size w b2)); clear hg hw hp_))
          go_roundg k1
          case measure => have := W.out; omega
          case rel => exact ⟨(I), ((IntKind.u64.wrap (d + (IntKind.u64.wrap (rd l0 a)))) / 4294967296), (wrap64 (a + 1)), sd, sd, H', ⟨by have := W.out; omega⟩, ⟨rb c⟩, ⟨bw⟩⟩
         ·rw [if_neg E] at H
          exact absurd H (by simp)
       ·rw [if_neg Y] at H
        exact absurd H (by simp)
      ·rw [if_neg c9] at H
       exact absurd H (by simp)
     ·rw [if_neg c8] at H
      have d0 : decide (a < (l0.length : Int)) = false := decide_eq_false c8
      clear c8
      by_cases F : 0 ≤ (l0.length : Int)
      ·rw [if_pos F] at H
       have e3 : decide (0 ≤ (l0.length : Int)) = true := decide_eq_true F
       have e4 : decide (0 ≤ l0.length) = true := decide_eq_true (by omega)
       clear F
       by_cases J : (l0.length : Int) < (b.length : Int)
       ·rw [if_pos J] at H
        have e5 : decide ((l0.length : Int) < (b.length : Int)) = true := decide_eq_true J
        have e6 : decide (l0.length < b.length) = true := decide_eq_true (Int.ofNat_lt.mp J)
        clear J
        obtain ⟨u, s⟩ : ∃ y_ : List Int, y_ = (b.set ((l0.length : Int) : Int).toNat ((d) % 4294967296)) := ⟨_, rfl⟩
        replace H : ((whole_words_trim.f k1 u).bind fun O => (some O)) = some r := by first | (rw [s]; with_reducible exact H) | (have H2_ := (Option.bind_some _ _).symm.trans H; rw [s]; with_reducible exact H2_) | (have H2_ := (Option.bind_some _ _).symm.trans H; with_reducible exact H2_) | with_reducible exact H | (rw [s]; exact H) | exact H
        have b3 := Aside0.mk s
        clear s
        obtain ⟨O, e7, H⟩ := bs H
        obtain rfl := Option.some.inj H
        have b4 : 0 ≤ ((l0.length : Int) : Int) := of_decide_eq_true asm
        have b5 : ((l0.length : Int) : Int) < ((b.length : Int) : Int) := of_decide_eq_true asm
        obtain ⟨go22, U, a0, a1, gl22, cl22, HG22⟩ := Kd.R_form c.out (by omega)
        (first | cases a0 | (injection a0 with ea_ en_ ec_; (first | subst ea_ | (injection ea_ with ea_; subst ea_)); subst ec_; clear en_))
        have GB22 := Aside0.mk a1
        have GG22 := Aside0.mk HG22
        clear a1 gl22 HG22
        obtain ⟨K, hf22_0⟩ := Kd.R_celln 0 c.out ((l0.length : Int) : Int) b4 b5
        replace b4 := eq_true b4
        replace b5 := eq_true b5
        have HP24 := Kd.R_putg c.out ((l0.length : Int) : Int) ((d) % 4294967296)
        simp only [Int.toNat_natCast] at K hf22_0 HP24
        go_wp2_with (first | ((with_reducible refine gate_store (t := 105) (p := 55) rfl ?_); refine store_event (t := 105) (p := 55) (v := ?vo_w25) (w1 := (wr.setCell ⟨go22, l0.length, none⟩ (.int .u32 ((d) % 4294967296)))) ?hg ?ho ?hn ?hr ?_; (case ho => rfl); (case hg => rfl); (case hn => rfl); (case hr => first | (go_simp; done) | (go_simp; rfl)); intro b6 hw; have hg : wr.grownBy b6 (some go22) := (by rw [hw]; exact HP24.2); have hp_ : Kd.R (Kd.int .u32) 105 b6 w.heap.size (fun k_ => (w.heap.size ≤ k_)) (.slice (some ⟨go22, 0, none⟩) b.length U) u := (by rw [hw, b3.out]; exact HP24.1); clear HP24; replace c := Aside0.mk hp_; replace HB := Aside0.mk ((by rw [hw]; exact below_set (HB.out) GB22.out : Below w.heap.size w b6)); clear hg hw hp_) | ((with_reducible refine gate_callee (f := 56) rfl ?_); refine goesL_ (some 57) rfl rfl Try.func56 (by kernel_rfl) rfl #[.slice (some ⟨go22, 0, none⟩) u.length U] rfl (by (try simp only [List.map_toArray, List.map_cons, List.map_nil]); first | done | (rw [show u.length = b.length from (Kd.R_reads' c.out).1.symm] <;> rfl) | rfl | (simp only [List.length_drop, List.length_take]; rfl)) ?_; (with_reducible refine (whole_words_trim.calls k1 (fun k_ => some k_ = (.slice (some ⟨go22, 0, none⟩) b.length U : Value).ownBlock) _ _ u O _ ?side1 e7.out).mono ?_); (case side1 => rw [show u.length = b.length from (Kd.R_reads' c.out).1.symm]; exact Kd.R_V (Kd.R_tight rfl (c.out))); rintro e f2 ⟨e9, rfl, d4, hb⟩; refine ⟨_, rfl, ?_⟩; have b7 := Aside0.mk (Kd.V_lower (Kd.V_mono (ok' := fun k_ => (w.heap.size ≤ k_)) d4 (fun k_ hk_ => Or.elim hk_ (fun hs_ => ((c.out).1 k_ hs_.symm)) (fun hn_ => (Nat.le_trans (sz HB) hn_)))) (sz HB)); replace c := rB c hb; replace HB := hB HB hb; clear hb d4))
        go_ret
        exact ⟨_, by first | rfl | (simp [errW_none, errW_some] <;> rfl) | (simp only [← hji3]; first | rfl | (simp [errW_none, errW_some] <;> rfl)) | (simp [*, errW_none, errW_some] <;> rfl), vb b7, bw⟩
       ·rw [if_neg J] at H
        exact absurd H (by simp)
      ·rw [if_neg F] at H
       exact absurd H (by simp)
  ·rw [if_neg c5] at H
   exact absurd H (by simp)
 ·rw [if_neg c4] at H
  exact absurd H (by simp)
theorem whole_plus1.lt (k : Nat) (A0 : Option Addr) (c0 : Nat) (l0 : List Int) (A1 : Option Addr) (c1 : Nat) (l1 : List Int) (r : List Int) (w : World) (hr0 : Kd.C (Kd.int .u32) w A0 l0.length l0) (hc0 : l0.length ≤ c0) (hr1 : Kd.C (Kd.int .u32) w A1 l1.length l1) (hc1 : l1.length ≤ c1) (hlt : decide (l1.length < l0.length) = true) (h : whole_plus1.f k l0 l1 = some r) :
  Calls Try.prog 54 #[.slice A1 l1.length c1, .slice A0 l0.length c0] w fun e w' => ∃ v0_ : Value, e = .returned (v0_) ∧ Kd.V (Kd.int .u32) 105 w' w.heap.size (fun k_ => (w.heap.size ≤ k_)) v0_ r ∧ Below w.heap.size w w' := by
 have b8 := Aside0.mk hr0
 have f0 := Aside0.mk hc0
 clear hr0 hc0
 have d7 := Aside0.mk hr1
 have f1 := Aside0.mk hc1
 clear hr1 hc1
 have HB := Aside0.mk (Below.refl w.heap.size w)
 have H : (if 0 ≤ (wrap64 ((l0.length : Int) + 1)) then (if (wrap64 ((l0.length : Int) + 1) : Int).toNat ≤ 70368744177664 then (whole_plus1.l0 k l0 l1 (List.replicate (wrap64 ((l0.length : Int) + 1) : Int).toNat 0) 0 (l0.length : Int) 0) else (none)) else (none)) = some r := h
 clear h
 obtain ⟨ji3, hji3⟩ : ∃ j_ : Int, (wrap64 ((l0.length : Int) + 1)) = j_ := ⟨_, rfl⟩
 replace H : (if 0 ≤ (ji3) then (if (ji3 : Int).toNat ≤ 70368744177664 then (whole_plus1.l0 k l0 l1 (List.replicate (ji3 : Int).toNat 0) 0 (l0.length : Int) 0) else (none)) else (none)) = some r := by first | (rw [hji3] at H; exact H) | (simp only [hji3] at H ⊢; exact H)
 have hji3w : (IntKind.i64.wrap ((l0.length : Int) + 1)) = ji3 := (i64_w _).trans hji3
 by_cases c4 : 0 ≤ (ji3)
 ·rw [if_pos c4] at H
  have b9 := eq_true c4
  have c2 : decide (0 ≤ (ji3)) = true := decide_eq_true c4
  clear c4
  by_cases c5 : (ji3 : Int).toNat ≤ 70368744177664
  ·rw [if_pos c5] at H
   have c3 := eq_true c5
   have c6 : decide ((ji3 : Int).toNat ≤ 70368744177664) = true := decide_eq_true c5
   clear c5
   obtain ⟨L, j⟩ : ∃ y_ : List Int, y_ = (List.replicate (ji3 : Int).toNat 0) := ⟨_, rfl⟩
   replace H : (whole_plus1.l0 k l0 l1 L 0 (l0.length : Int) 0) = some r := by first | (rw [j]; with_reducible exact H) | (have H2_ := (Option.bind_some _ _).symm.trans H; rw [j]; with_reducible exact H2_) | (have H2_ := (Option.bind_some _ _).symm.trans H; with_reducible exact H2_) | with_reducible exact H | (rw [j]; exact H) | exact H
   have y := Aside0.mk j
   clear j
   have H' := Aside0.mk H
   clear H
   go_enter Try.func54, Try.ntmps54
   go_wp2_with (first | ((with_reducible refine gd 18 rfl ?_); refine Kd.R_make (Kd.int .u32) _ 105 rfl (N := 18) rfl 103 _ _ rfl ji3 rfl rfl Try.underlying103 (.int .u32 0) 4 info105 rfl (by decide) (by omega) 0 (ok := fun _ => True) (okp := fun _ => True) rfl (fun _ hk => hk) trivial (of_decide_eq_true asm) (Nat.le_trans (Nat.mul_le_mul_right _ (of_decide_eq_true asm : ji3.toNat ≤ 70368744177664)) (by omega)) (Below.refl _ _) (Nat.le_refl _) ?_; intro c7 w6 z hb hg_ hnew_; clear hg_ hnew_; (first | rw [← y.out] at z | (simp only [Int.reduceToNat] at z; rw [← y.out] at z)); have a2 := rL HB (Kd.R_newM (M := fun k_ => (w.heap.size ≤ k_)) z (sz HB) (fun k_ h_ => h_)); replace HB := hB HB hb; clear hb z))
   go_loopg [6, 21] k (fun kq v6 d8 w' => ∃ (b : List Int) (d : Int) (a : Int), v6 = .int .u64 d ∧ d8 = .int .i64 a ∧ Aside0 (whole_plus1.l0 kq l0 l1 b d (l0.length : Int) a = some r) ∧ Aside0 (kq ≤ k) ∧ Aside0 (Kd.R (Kd.int .u32) 105 w' w.heap.size (fun k_ => (w.heap.size ≤ k_)) c7 b) ∧ Aside0 (Below w.heap.size w w'))
   case atStart => exact ⟨(L), (0), (0), sd, sd, H', ⟨Nat.le_refl _⟩, ⟨by (with_reducible repeat (first | apply Kd.R_alloc | apply Kd.R_drewN | apply Kd.R_drew)); exact Kd.R_mono a2.out (fun _ hk => hk.1)⟩, ⟨bw⟩⟩
   case round =>
    clear H'
    try clear c1
    try clear c4
    try clear b9
    try clear c2
    try clear c5
    try clear c3
    try clear c6
    obtain ⟨b, d, a, rfl, rfl, HA, W, c, HB⟩ := hrel
    cases gk with
    | zero => exact absurd HA.out (by simp [whole_plus1.l0])
    | succ k1 =>
     have H := HA.out
     clear HA
     simp only [whole_plus1.l0] at H
     by_cases c8 : a < (l0.length : Int)
     ·rw [if_pos c8] at H
      have d0 : decide (a < (l0.length : Int)) = true := decide_eq_true c8
      clear c8
      by_cases c9 : 0 ≤ a
      ·rw [if_pos c9] at H
       have e8 : decide (0 ≤ a) = true := decide_eq_true c9
       clear c9
       by_cases Y : a < (l0.length : Int)
       ·rw [if_pos Y] at H
        have d9 : decide (a < (l0.length : Int)) = true := decide_eq_true Y
        clear Y
        by_cases x : a < (l1.length : Int)
        ·rw [if_pos x] at H
         have a3 : decide (a < (l1.length : Int)) = true := decide_eq_true x
         clear x
         by_cases X : a < (b.length : Int)
         ·rw [if_pos X] at H
          have e0 : decide (a < (b.length : Int)) = true := decide_eq_true X
          clear X
          obtain ⟨A, l⟩ : ∃ y_ : List Int, y_ = (b.set (a : Int).toNat ((IntKind.u64.wrap ((IntKind.u64.wrap (d + (IntKind.u64.wrap (rd l0 a)))) + (IntKind.u64.wrap (rd l1 a)))) % 4294967296)) := ⟨_, rfl⟩
          replace H : (whole_plus1.l0 k1 l0 l1 A ((IntKind.u64.wrap ((IntKind.u64.wrap (d + (IntKind.u64.wrap (rd l0 a)))) + (IntKind.u64.wrap (rd l1 a)))) / 4294967296) (l0.length : Int) (wrap64 (a + 1))) = some r := by first | (rw [l]; with_reducible exact H) | (have H2_ := (Option.bind_some _ _).symm.trans H; rw [l]; with_reducible exact H2_) | (have H2_ := (Option.bind_some _ _).symm.trans H; with_reducible exact H2_) | with_reducible exact H | (rw [l]; exact H) | exact H
          have a4 := Aside0.mk l
          clear l
          have H' := Aside0.mk H
          clear H
          have m : 0 ≤ (a : Int) := of_decide_eq_true asm
          have n : a < (l0.length : Int) := of_decide_eq_true asm
          obtain ⟨a5, B, i⟩ := Kd.at_int b8.out a m n
          cases B
          replace i := (HB.out.cell (World.block_lt_of_cell? w _ i)).trans i
          replace m := eq_true m
          replace n := eq_true n
          have D : 0 ≤ (a : Int) := of_decide_eq_true asm
          have G : a < (l1.length : Int) := of_decide_eq_true asm
          obtain ⟨e1, d1, o⟩ := Kd.at_int d7.out a D G
          cases d1
          replace o := (HB.out.cell (World.block_lt_of_cell? w _ o)).trans o
          replace D := eq_true D
          replace G := eq_true G
          have a6 : 0 ≤ (a : Int) := of_decide_eq_true asm
          have a7 : (a : Int) < ((b.length : Int) : Int) := of_decide_eq_true asm
          obtain ⟨go13, d2, P, Q, gl13, cl13, HG13⟩ := Kd.R_form c.out (by omega)
          (first | cases P | (injection P with ea_ en_ ec_; (first | subst ea_ | (injection ea_ with ea_; subst ea_)); subst ec_; clear en_))
          have GB13 := Aside0.mk Q
          have GG13 := Aside0.mk HG13
          clear Q gl13 HG13
          obtain ⟨d5, hf13_0⟩ := Kd.R_celln 0 c.out (a : Int) a6 a7
          replace a6 := eq_true a6
          replace a7 := eq_true a7
          have HP14 := Kd.R_putg c.out (a : Int) ((IntKind.u64.wrap ((IntKind.u64.wrap (d + (IntKind.u64.wrap (rd l0 a)))) + (IntKind.u64.wrap (rd l1 a)))) % 4294967296)
          go_wp2_with (first | ((with_reducible refine gate_store (t := 105) (p := 46) rfl ?_); refine store_event (t := 105) (p := 46) (v := ?vo_w15) (w1 := (wr.setCell ⟨go13, (a : Int).toNat, none⟩ (.int .u32 ((IntKind.u64.wrap ((IntKind.u64.wrap (d + (IntKind.u64.wrap (rd l0 a)))) + (IntKind.u64.wrap (rd l1 a)))) % 4294967296)))) ?hg ?ho ?hn ?hr ?_; (case ho => rfl); (case hg => rfl); (case hn => rfl); (case hr => first | (go_simp; done) | (go_simp; rfl)); intro a8 hw; have hg : wr.grownBy a8 (some go13) := (by rw [hw]; exact HP14.2); have hp_ : Kd.R (Kd.int .u32) 105 a8 w.heap.size (fun k_ => (w.heap.size ≤ k_)) (.slice (some ⟨go13, 0, none⟩) b.length d2) A := (by rw [hw, a4.out]; exact HP14.1); clear HP14; replace c := Aside0.mk hp_; replace HB := Aside0.mk ((by rw [hw]; exact below_set (HB.out) GB13.out : Below w.heap.size w a8)); clear hg hw hp_))
          go_roundg k1
          case measure => have := W.out; omega
          case rel => exact ⟨(A), ((IntKind.u64.wrap ((IntKind.u64.wrap (d + (IntKind.u64.wrap (rd l0 a)))) + (IntKind.u64.wrap (rd l1 a)))) / 4294967296), (wrap64 (a + 1)), sd, sd, H', ⟨by have := W.out; omega⟩, ⟨rb c⟩, ⟨bw⟩⟩
         ·rw [if_neg X] at H
          exact absurd H (by simp)
        ·rw [if_neg x] at H
         have a3 : decide (a < (l1.length : Int)) = false := decide_eq_false x
         clear x
         by_cases E : a < (b.length : Int)
         ·rw [if_pos E] at H
          have e2 : decide (a < (b.length : Int)) = true := decide_eq_true E
          clear E
          obtain ⟨I, q⟩ : ∃ y_ : List Int, y_ = (b.set (a : Int).toNat ((IntKind.u64.wrap (d + (IntKind.u64.wrap (rd l0 a)))) % 4294967296)) := ⟨_, rfl⟩
          replace H : (whole_plus1.l0 k1 l0 l1 I ((IntKind.u64.wrap (d + (IntKind.u64.wrap (rd l0 a)))) / 4294967296) (l0.length : Int) (wrap64 (a + 1))) = some r := by first | (rw [q]; with_reducible exact H) | (have H2_ := (Option.bind_some _ _).symm.trans H; rw [q]; with_reducible exact H2_) | (have H2_ := (Option.bind_some _ _).symm.trans H; with_reducible exact H2_) | with_reducible exact H | (rw [q]; exact H) | exact H
          have a9 := Aside0.mk q
          clear q
          have H' := Aside0.mk H
          clear H
          have m : 0 ≤ (a : Int) := of_decide_eq_true asm
          have n : a < (l0.length : Int) := of_decide_eq_true asm
          obtain ⟨a5, B, i⟩ := Kd.at_int b8.out a m n
          cases B
          replace i := (HB.out.cell (World.block_lt_of_cell? w _ i)).trans i
          replace m := eq_true m
          replace n := eq_true n
          have b0 : 0 ≤ (a : Int) := of_decide_eq_true asm
          have b1 : (a : Int) < ((b.length : Int) : Int) := of_decide_eq_true asm
          obtain ⟨go17, d3, S, T, gl17, cl17, HG17⟩ := Kd.R_form c.out (by omega)
          (first | cases S | (injection S with ea_ en_ ec_; (first | subst ea_ | (injection ea_ with ea_; subst ea_)); subst ec_; clear en_))
          have GB17 := Aside0.mk T
          have GG17 := Aside0.mk HG17
          clear T gl17 HG17
          obtain ⟨d6, hf17_0⟩ := Kd.R_celln 0 c.out (a : Int) b0 b1
          replace b0 := eq_true b0
          replace b1 := eq_true b1
          have HP18 := Kd.R_putg c.out (a : Int) ((IntKind.u64.wrap (d + (IntKind.u64.wrap (rd l0 a)))) % 4294967296)
          go_wp2_with (first | ((with_reducible refine gate_store (t := 105) (p := 46) rfl ?_); refine store_event (t := 105) (p := 46) (v := ?vo_w19) (w1 := (wr.setCell ⟨go17, (a : Int).toNat, none⟩ (.int .u32 ((IntKind.u64.wrap (d + (IntKind.u64.wrap (rd l0 a)))) % 4294967296)))) ?hg ?ho ?hn ?hr ?_; (case ho => rfl); (case hg => rfl); (case hn => rfl); (case hr => first | (go_simp; done) | (go_simp; rfl)); intro b2 hw; have hg : wr.grownBy b2 (some go17) := (by rw [hw]; exact HP18.2); have hp_ : Kd.R (Kd.int .u32) 105 b2 w.heap.size (fun k_ => (w.heap.size ≤ k_)) (.slice (some ⟨go17, 0, none⟩) b.length d3) I := (by rw [hw, a9.out]; exact HP18.1); clear HP18; replace c := Aside0.mk hp_; replace HB := Aside0.mk ((by rw [hw]; exact below_set (HB.out) GB17.out : Below w.heap.size w b2)); clear hg hw hp_))
          go_roundg k1
          case measure => have := W.out; omega
          case rel => exact ⟨(I), ((IntKind.u64.wrap (d + (IntKind.u64.wrap (rd l0 a)))) / 4294967296), (wrap64 (a + 1)), sd, sd, H', ⟨by have := W.out; omega⟩, ⟨rb c⟩, ⟨bw⟩⟩
         ·rw [if_neg E] at H
          exact absurd H (by simp)
       ·rw [if_neg Y] at H
        exact absurd H (by simp)
      ·rw [if_neg c9] at H
       exact absurd H (by simp)
     ·rw [if_neg c8] at H
      have d0 : decide (a < (l0.length : Int)) = false := decide_eq_false c8
      clear c8
      by_cases F : 0 ≤ (l0.length : Int)
      ·rw [if_pos F] at H
       have e3 : decide (0 ≤ (l0.length : Int)) = true := decide_eq_true F
       have e4 : decide (0 ≤ l0.length) = true := decide_eq_true (by omega)
       clear F
       by_cases J : (l0.length : Int) < (b.length : Int)
       ·rw [if_pos J] at H
        have e5 : decide ((l0.length : Int) < (b.length : Int)) = true := decide_eq_true J
        have e6 : decide (l0.length < b.length) = true := decide_eq_true (Int.ofNat_lt.mp J)
        clear J
        obtain ⟨u, s⟩ : ∃ y_ : List Int, y_ = (b.set ((l0.length : Int) : Int).toNat ((d) % 4294967296)) := ⟨_, rfl⟩
        replace H : ((whole_words_trim.f k1 u).bind fun O => (some O)) = some r := by first | (rw [s]; with_reducible exact H) | (have H2_ := (Option.bind_some _ _).symm.trans H; rw [s]; with_reducible exact H2_) | (have H2_ := (Option.bind_some _ _).symm.trans H; with_reducible exact H2_) | with_reducible exact H | (rw [s]; exact H) | exact H
        have b3 := Aside0.mk s
        clear s
        obtain ⟨O, e7, H⟩ := bs H
        obtain rfl := Option.some.inj H
        have b4 : 0 ≤ ((l0.length : Int) : Int) := of_decide_eq_true asm
        have b5 : ((l0.length : Int) : Int) < ((b.length : Int) : Int) := of_decide_eq_true asm
        obtain ⟨go22, U, a0, a1, gl22, cl22, HG22⟩ := Kd.R_form c.out (by omega)
        (first | cases a0 | (injection a0 with ea_ en_ ec_; (first | subst ea_ | (injection ea_ with ea_; subst ea_)); subst ec_; clear en_))
        have GB22 := Aside0.mk a1
        have GG22 := Aside0.mk HG22
        clear a1 gl22 HG22
        obtain ⟨K, hf22_0⟩ := Kd.R_celln 0 c.out ((l0.length : Int) : Int) b4 b5
        replace b4 := eq_true b4
        replace b5 := eq_true b5
        have HP24 := Kd.R_putg c.out ((l0.length : Int) : Int) ((d) % 4294967296)
        simp only [Int.toNat_natCast] at K hf22_0 HP24
        go_wp2_with (first | ((with_reducible refine gate_store (t := 105) (p := 55) rfl ?_); refine store_event (t := 105) (p := 55) (v := ?vo_w25) (w1 := (wr.setCell ⟨go22, l0.length, none⟩ (.int .u32 ((d) % 4294967296)))) ?hg ?ho ?hn ?hr ?_; (case ho => rfl); (case hg => rfl); (case hn => rfl); (case hr => first | (go_simp; done) | (go_simp; rfl)); intro b6 hw; have hg : wr.grownBy b6 (some go22) := (by rw [hw]; exact HP24.2); have hp_ : Kd.R (Kd.int .u32) 105 b6 w.heap.size (fun k_ => (w.heap.size ≤ k_)) (.slice (some ⟨go22, 0, none⟩) b.length U) u := (by rw [hw, b3.out]; exact HP24.1); clear HP24; replace c := Aside0.mk hp_; replace HB := Aside0.mk ((by rw [hw]; exact below_set (HB.out) GB22.out : Below w.heap.size w b6)); clear hg hw hp_) | ((with_reducible refine gate_callee (f := 56) rfl ?_); refine goesL_ (some 57) rfl rfl Try.func56 (by kernel_rfl) rfl #[.slice (some ⟨go22, 0, none⟩) u.length U] rfl (by (try simp only [List.map_toArray, List.map_cons, List.map_nil]); first | done | (rw [show u.length = b.length from (Kd.R_reads' c.out).1.symm] <;> rfl) | rfl | (simp only [List.length_drop, List.length_take]; rfl)) ?_; (with_reducible refine (whole_words_trim.calls k1 (fun k_ => some k_ = (.slice (some ⟨go22, 0, none⟩) b.length U : Value).ownBlock) _ _ u O _ ?side1 e7.out).mono ?_); (case side1 => rw [show u.length = b.length from (Kd.R_reads' c.out).1.symm]; exact Kd.R_V (Kd.R_tight rfl (c.out))); rintro e f2 ⟨e9, rfl, d4, hb⟩; refine ⟨_, rfl, ?_⟩; have b7 := Aside0.mk (Kd.V_lower (Kd.V_mono (ok' := fun k_ => (w.heap.size ≤ k_)) d4 (fun k_ hk_ => Or.elim hk_ (fun hs_ => ((c.out).1 k_ hs_.symm)) (fun hn_ => (Nat.le_trans (sz HB) hn_)))) (sz HB)); replace c := rB c hb; replace HB := hB HB hb; clear hb d4))
        go_ret
        exact ⟨_, by first | rfl | (simp [errW_none, errW_some] <;> rfl) | (simp only [← hji3]; first | rfl | (simp [errW_none, errW_some] <;> rfl)) | (simp [*, errW_none, errW_some] <;> rfl), vb b7, bw⟩
       ·rw [if_neg J] at H
        exact absurd H (by simp)
      ·rw [if_neg F] at H
       exact absurd H (by simp)
  ·rw [if_neg c5] at H
   exact absurd H (by simp)
 ·rw [if_neg c4] at H
  exact absurd H (by simp)
def whole_plus.f (k : Nat) (l0 : List Int) (l1 : List Int) : Option (List Int) := if l0.length < l1.length then whole_plus1.f k l1 l0 else whole_plus1.f k l0 l1
theorem whole_plus.mono : ∀ a0 a1 k, LeO (whole_plus.f k a0 a1) (whole_plus.f (k + 1) a0 a1) := by
 intro a0 a1 k
 unfold whole_plus.f
 exact LeO.ite (whole_plus1.mono _ _ _) (whole_plus1.mono _ _ _)
theorem whole_plus.calls (k : Nat) (A0 : Option Addr) (c0 : Nat) (l0 : List Int) (A1 : Option Addr) (c1 : Nat) (l1 : List Int) (r : List Int) (w : World) (hr0 : Kd.C (Kd.int .u32) w A0 l0.length l0) (hc0 : l0.length ≤ c0) (hr1 : Kd.C (Kd.int .u32) w A1 l1.length l1) (hc1 : l1.length ≤ c1) (h : whole_plus.f k l0 l1 = some r) :
  Calls Try.prog 54 #[.slice A0 l0.length c0, .slice A1 l1.length c1] w fun e w' => ∃ v0_ : Value, e = .returned (v0_) ∧ Kd.V (Kd.int .u32) 105 w' w.heap.size (fun k_ => (w.heap.size ≤ k_)) v0_ r ∧ Below w.heap.size w w' := by
 unfold whole_plus.f at h
 by_cases hlt : l0.length < l1.length
 ·rw [if_pos hlt] at h
  exact whole_plus1.lt k A1 c1 l1 A0 c0 l0 r w hr1 hc1 hr0 hc0 (by simpa using hlt) h
 ·rw [if_neg hlt] at h
  exact whole_plus1.ge k A0 c0 l0 A1 c1 l1 r w hr0 hc0 hr1 hc1 (by simpa using hlt) h
end Go.Proofs.Ytpodpmjlkbbkoaa.P
