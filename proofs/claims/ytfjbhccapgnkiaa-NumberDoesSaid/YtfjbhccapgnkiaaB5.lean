import Derived.Test.YtfjbhccapgnkiaaA2
import Derived.Test.YtfjbhccapgnkiaaB1
namespace Go.Proofs.Ytfjbhccapgnkiaa.P
open Go.RowKit Go.Proofs.YtfjbhccapgnkiaaW.PrintWords Go.Proofs.YtfjbhccapgnkiaaW.PrintLast Go.Proofs.YtfjbhccapgnkiaaW.PrintMore
attribute [local go_sem] max2_int min2_int max_two min_two max_three min_three max_four min_four
set_option linter.unusedVariables false
set_option maxHeartbeats 16000000
set_option maxRecDepth 100000
set_option linter.unusedSimpArgs false
/-! ### whole_times: function 74 -/
mutual
def whole_times.l0 : Nat → List Int → List Int → List Int → Int → Int → Option (List Int)
 | 0, _, _, _, _, _ => none
 | k + 1, x1, x5, a2, a3, a0 => if a0 < a3 then (if 0 ≤ a0 then (if a0 < (a2.length : Int) then (whole_times.l1 k x1 x5 a0 (rd a2 a0) 0 a2 a3 a0 x1 (x1.length : Int) 0) else (none)) else (none)) else ((whole_words_trim.f k x5).bind fun a1 => (some a1))
def whole_times.l1 : Nat → List Int → List Int → Int → Int → Int → List Int → Int → Int → List Int → Int → Int → Option (List Int)
 | 0, _, _, _, _, _, _, _, _, _, _, _ => none
 | k + 1, x1, x5, x6, x7, x8, a5, a2, a3, a1, a4, a0 => if a0 < a4 then (if 0 ≤ a0 then (if a0 < (a1.length : Int) then (if 0 ≤ (wrap64 (x6 + a0)) then (if (wrap64 (x6 + a0)) < (x5.length : Int) then (whole_times.l1 k x1 (x5.set ((wrap64 (x6 + a0)) : Int).toNat ((IntKind.u64.wrap (x8 + (IntKind.u64.wrap ((IntKind.u64.wrap ((IntKind.u64.wrap (x7)) * (IntKind.u64.wrap (rd a1 a0)))) + (IntKind.u64.wrap (rd x5 (wrap64 (x6 + a0)))))))) % 4294967296)) x6 x7 ((IntKind.u64.wrap (x8 + (IntKind.u64.wrap ((IntKind.u64.wrap ((IntKind.u64.wrap (x7)) * (IntKind.u64.wrap (rd a1 a0)))) + (IntKind.u64.wrap (rd x5 (wrap64 (x6 + a0)))))))) / 4294967296) a5 a2 a3 a1 a4 (wrap64 (a0 + 1))) else (none)) else (none)) else (none)) else (none)) else (if 0 ≤ (wrap64 (x6 + (x1.length : Int))) then (if (wrap64 (x6 + (x1.length : Int))) < (x5.length : Int) then (whole_times.l0 k x1 (x5.set ((wrap64 (x6 + (x1.length : Int))) : Int).toNat ((x8) % 4294967296)) a5 a2 (wrap64 (a3 + 1))) else (none)) else (none))
end
def whole_times.f (k : Nat) (l0 : List Int) (l1 : List Int) : Option (List Int) := if 0 ≤ (wrap64 ((l0.length : Int) + (l1.length : Int))) then (if (wrap64 ((l0.length : Int) + (l1.length : Int)) : Int).toNat ≤ 70368744177664 then (whole_times.l0 k l1 (List.replicate (wrap64 ((l0.length : Int) + (l1.length : Int)) : Int).toNat 0) l0 (l0.length : Int) 0) else (none)) else (none)
theorem whole_times.mono_l : ∀ k, (∀ y0 y1 y2 y3 y4, LeO (whole_times.l0 k y0 y1 y2 y3 y4) (whole_times.l0 (k + 1) y0 y1 y2 y3 y4)) ∧ (∀ y0 y1 y2 y3 y4 y5 y6 y7 y8 y9 a2, LeO (whole_times.l1 k y0 y1 y2 y3 y4 y5 y6 y7 y8 y9 a2) (whole_times.l1 (k + 1) y0 y1 y2 y3 y4 y5 y6 y7 y8 y9 a2))
 | 0 => ⟨fun _ _ _ _ _ r h => by simp [whole_times.l0] at h, fun _ _ _ _ _ _ _ _ _ _ _ r h => by simp [whole_times.l1] at h⟩
 | k + 1 => by
  obtain ⟨a0, a1⟩ := whole_times.mono_l k
  refine ⟨?_, ?_⟩
  ·intro y0 y1 y2 y3 y4
   unfold whole_times.l0
   repeat' first | with_reducible exact a0 _ _ _ _ _ | with_reducible exact a1 _ _ _ _ _ _ _ _ _ _ _ | with_reducible exact whole_words_trim.mono _ _ | with_reducible exact LeO.refl _ | with_reducible exact LeO.none _ | with_reducible refine LeO.ite ?_ ?_ | with_reducible refine LeO.bind ?_ (fun _ => ?_) | exact a0 _ _ _ _ _ | exact a1 _ _ _ _ _ _ _ _ _ _ _ | exact whole_words_trim.mono _ _ | exact LeO.none _ | refine LeO.ite ?_ ?_ | refine LeO.bind ?_ (fun _ => ?_)
  ·intro y0 y1 y2 y3 y4 y5 y6 y7 y8 y9 a2
   unfold whole_times.l1
   repeat' first | with_reducible exact a0 _ _ _ _ _ | with_reducible exact a1 _ _ _ _ _ _ _ _ _ _ _ | with_reducible exact whole_words_trim.mono _ _ | with_reducible exact LeO.refl _ | with_reducible exact LeO.none _ | with_reducible refine LeO.ite ?_ ?_ | with_reducible refine LeO.bind ?_ (fun _ => ?_) | exact a0 _ _ _ _ _ | exact a1 _ _ _ _ _ _ _ _ _ _ _ | exact whole_words_trim.mono _ _ | exact LeO.none _ | refine LeO.ite ?_ ?_ | refine LeO.bind ?_ (fun _ => ?_)
theorem whole_times.mono : ∀ a0 a1 k, LeO (whole_times.f k a0 a1) (whole_times.f (k + 1) a0 a1) := by
 intro a0 a1 k
 obtain ⟨a2, a3⟩ := whole_times.mono_l k
 unfold whole_times.f
 repeat' first | with_reducible exact a2 _ _ _ _ _ | with_reducible exact a3 _ _ _ _ _ _ _ _ _ _ _ | with_reducible exact whole_words_trim.mono _ _ | with_reducible exact LeO.refl _ | with_reducible exact LeO.none _ | with_reducible refine LeO.ite ?_ ?_ | with_reducible refine LeO.bind ?_ (fun _ => ?_) | exact a2 _ _ _ _ _ | exact a3 _ _ _ _ _ _ _ _ _ _ _ | exact whole_words_trim.mono _ _ | exact LeO.none _ | refine LeO.ite ?_ ?_ | refine LeO.bind ?_ (fun _ => ?_)
theorem whole_times.calls (k : Nat) (A0 : Option Addr) (c0 : Nat) (l0 : List Int) (A1 : Option Addr) (c1 : Nat) (l1 : List Int) (r : List Int) (w : World) (bG : Kd.C (Kd.int .u32) w A0 l0.length l0) (bD : l0.length ≤ c0) (bq : Kd.C (Kd.int .u32) w A1 l1.length l1) (bv : l1.length ≤ c1) (h : whole_times.f k l0 l1 = some r) :
  Calls Try.prog 74 #[.slice A0 l0.length c0, .slice A1 l1.length c1] w fun e w' => ∃ bF : Value, e = .returned (bF) ∧ Kd.V (Kd.int .u32) 118 w' w.heap.size (fun k_ => (w.heap.size ≤ k_)) bF r ∧ Below w.heap.size w w' := by
 have HR0 := Aside0.mk bG
 have HC0 := Aside0.mk bD
 clear bG bD
 have HR1 := Aside0.mk bq
 have HC1 := Aside0.mk bv
 clear bq bv
 have HB := Aside0.mk (Below.refl w.heap.size w)
 have H : (if 0 ≤ (wrap64 ((l0.length : Int) + (l1.length : Int))) then (if (wrap64 ((l0.length : Int) + (l1.length : Int)) : Int).toNat ≤ 70368744177664 then (whole_times.l0 k l1 (List.replicate (wrap64 ((l0.length : Int) + (l1.length : Int)) : Int).toNat 0) l0 (l0.length : Int) 0) else (none)) else (none)) = some r := h
 clear h
 obtain ⟨a9, hji3⟩ : ∃ j_ : Int, (wrap64 ((l0.length : Int) + (l1.length : Int))) = j_ := ⟨_, rfl⟩
 replace H : (if 0 ≤ (a9) then (if (a9 : Int).toNat ≤ 70368744177664 then (whole_times.l0 k l1 (List.replicate (a9 : Int).toNat 0) l0 (l0.length : Int) 0) else (none)) else (none)) = some r := by first | (rw [hji3] at H; exact H) | (simp only [hji3] at H ⊢; exact H)
 have bB : (IntKind.i64.wrap ((l0.length : Int) + (l1.length : Int))) = a9 := (i64_w _).trans hji3
 by_cases c4 : 0 ≤ (a9)
 ·rw [if_pos c4] at H
  have aD := eq_true c4
  have aH : decide (0 ≤ (a9)) = true := decide_eq_true c4
  clear c4
  by_cases c5 : (a9 : Int).toNat ≤ 70368744177664
  ·rw [if_pos c5] at H
   have ay := eq_true c5
   have aB : decide ((a9 : Int).toNat ≤ 70368744177664) = true := decide_eq_true c5
   clear c5
   obtain ⟨y493, hy493⟩ : ∃ y_ : List Int, y_ = (List.replicate (a9 : Int).toNat 0) := ⟨_, rfl⟩
   replace H : (whole_times.l0 k l1 y493 l0 (l0.length : Int) 0) = some r := by first | (rw [hy493]; with_reducible exact H) | (have a8 := (Option.bind_some _ _).symm.trans H; rw [hy493]; with_reducible exact a8) | (have a8 := (Option.bind_some _ _).symm.trans H; with_reducible exact a8) | with_reducible exact H | (rw [hy493]; exact H) | exact H
   have ad := Aside0.mk hy493
   clear hy493
   have H' := Aside0.mk H
   clear H
   go_enter Try.func74, Try.ntmps74
   go_wp2_with (first | ((with_reducible refine gd 16 rfl ?_); refine Kd.R_make (Kd.int .u32) _ 118 rfl (N := 16) rfl 106 _ _ rfl a9 rfl rfl Try.underlying106 (.int .u32 0) 4 info118 rfl (by decide) (by omega) 0 (ok := fun _ => True) (okp := fun _ => True) rfl (fun _ hk => hk) trivial (of_decide_eq_true asm) (Nat.le_trans (Nat.mul_le_mul_right _ (of_decide_eq_true asm : a9.toNat ≤ 70368744177664)) (by omega)) (Below.refl _ _) (Nat.le_refl _) ?_; intro ax w6 aA hb hg_ av; clear hg_ av; (first | rw [← ad.out] at aA | (simp only [Int.reduceToNat] at aA; rw [← ad.out] at aA)); have aI := rL HB (Kd.R_newM (M := fun k_ => (w.heap.size ≤ k_)) aA (sz HB) (fun k_ h_ => h_)); replace HB := hB HB hb; clear hb aA))
   go_loopg [19] k (fun kq v19 w' => ∃ (a7 : List Int) (a0 : Int), v19 = .int .i64 a0 ∧ Aside0 (whole_times.l0 kq l1 a7 l0 (l0.length : Int) a0 = some r) ∧ Aside0 (kq ≤ k) ∧ Aside0 (Kd.R (Kd.int .u32) 118 w' w.heap.size (fun k_ => (w.heap.size ≤ k_)) ax a7) ∧ Aside0 (Below w.heap.size w w'))
   case atStart => exact ⟨(y493), (0), sd, H', ⟨Nat.le_refl _⟩, ⟨by (with_reducible repeat (first | apply Kd.R_alloc | apply Kd.R_drewN | apply Kd.R_drew)); exact Kd.R_mono aI.out (fun _ hk => hk.1)⟩, ⟨bw⟩⟩
   case round =>
    clear H'
    try clear c1
    try clear c4
    try clear aD
    try clear aH
    try clear c5
    try clear ay
    try clear aB
    obtain ⟨a7, a0, rfl, HA, aQ, a3, HB⟩ := hrel
    cases gk with
    | zero => exact absurd HA.out (by simp [whole_times.l0])
    | succ k1 =>
     have H := HA.out
     clear HA
     simp only [whole_times.l0] at H
     by_cases c8 : a0 < (l0.length : Int)
     ·rw [if_pos c8] at H
      have aE : decide (a0 < (l0.length : Int)) = true := decide_eq_true c8
      clear c8
      by_cases c9 : 0 ≤ a0
      ·rw [if_pos c9] at H
       have be : decide (0 ≤ a0) = true := decide_eq_true c9
       clear c9
       by_cases c10 : a0 < (l0.length : Int)
       ·rw [if_pos c10] at H
        have au : decide (a0 < (l0.length : Int)) = true := decide_eq_true c10
        clear c10
        have H' := Aside0.mk H
        clear H
        have ab : 0 ≤ (a0 : Int) := of_decide_eq_true asm
        have aa : a0 < (l0.length : Int) := of_decide_eq_true asm
        obtain ⟨br, b2, a5⟩ := Kd.at_int HR0.out a0 ab aa
        cases b2
        replace a5 := (HB.out.cell (World.block_lt_of_cell? w _ a5)).trans a5
        replace ab := eq_true ab
        replace aa := eq_true aa
        go_wp2
        go_loopg [8, 26] k1 (fun kq v8 v26 w' => ∃ (a2 : List Int) (a4 : Int) (a1 : Int), v8 = .int .u64 a4 ∧ v26 = .int .i64 a1 ∧ Aside0 (whole_times.l1 kq l1 a2 a0 (rd l0 a0) a4 l0 (l0.length : Int) a0 l1 (l1.length : Int) a1 = some r) ∧ Aside0 (kq ≤ k1) ∧ Aside0 (Kd.R (Kd.int .u32) 118 w' w.heap.size (fun k_ => (w.heap.size ≤ k_)) ax a2) ∧ Aside0 (Below w.heap.size w w'))
        case atStart => exact ⟨(a7), (0), (0), sd, sd, H', ⟨Nat.le_refl _⟩, ⟨rb a3⟩, ⟨bw⟩⟩
        case round =>
         clear H'
         try clear c1
         try clear c4
         try clear aD
         try clear aH
         try clear c5
         try clear ay
         try clear aB
         try clear c8
         try clear aE
         try clear c9
         try clear be
         try clear c10
         try clear au
         try clear a5
         try clear ab
         try clear aa
         obtain ⟨a2, a4, a1, rfl, rfl, HA, aP, a3, HB⟩ := hrel
         cases gk with
         | zero => exact absurd HA.out (by simp [whole_times.l1])
         | succ k2 =>
          have H := HA.out
          clear HA
          simp only [whole_times.l1] at H
          by_cases am : a1 < (l1.length : Int)
          ·rw [if_pos am] at H
           have aw : decide (a1 < (l1.length : Int)) = true := decide_eq_true am
           clear am
           by_cases aM : 0 ≤ a1
           ·rw [if_pos aM] at H
            have bx : decide (0 ≤ a1) = true := decide_eq_true aM
            clear aM
            by_cases aR : a1 < (l1.length : Int)
            ·rw [if_pos aR] at H
             have bl : decide (a1 < (l1.length : Int)) = true := decide_eq_true aR
             clear aR
             obtain ⟨ji14, hji14⟩ : ∃ j_ : Int, (wrap64 (a0 + a1)) = j_ := ⟨_, rfl⟩
             replace H : (if 0 ≤ (ji14) then (if (ji14) < (a2.length : Int) then (whole_times.l1 k2 l1 (a2.set ((ji14) : Int).toNat ((IntKind.u64.wrap (a4 + (IntKind.u64.wrap ((IntKind.u64.wrap ((IntKind.u64.wrap ((rd l0 a0))) * (IntKind.u64.wrap (rd l1 a1)))) + (IntKind.u64.wrap (rd a2 (ji14))))))) % 4294967296)) a0 (rd l0 a0) ((IntKind.u64.wrap (a4 + (IntKind.u64.wrap ((IntKind.u64.wrap ((IntKind.u64.wrap ((rd l0 a0))) * (IntKind.u64.wrap (rd l1 a1)))) + (IntKind.u64.wrap (rd a2 (ji14))))))) / 4294967296) l0 (l0.length : Int) a0 l1 (l1.length : Int) (wrap64 (a1 + 1))) else (none)) else (none)) = some r := by first | (rw [hji14] at H; exact H) | (simp only [hji14] at H ⊢; exact H)
             have bi : (IntKind.i64.wrap (a0 + a1)) = ji14 := (i64_w _).trans hji14
             by_cases aT : 0 ≤ (ji14)
             ·rw [if_pos aT] at H
              have bz : decide (0 ≤ (ji14)) = true := decide_eq_true aT
              clear aT
              by_cases aN : (ji14) < (a2.length : Int)
              ·rw [if_pos aN] at H
               have bA : decide ((ji14) < (a2.length : Int)) = true := decide_eq_true aN
               clear aN
               obtain ⟨y502, hy502⟩ : ∃ y_ : List Int, y_ = (a2.set ((ji14) : Int).toNat ((IntKind.u64.wrap (a4 + (IntKind.u64.wrap ((IntKind.u64.wrap ((IntKind.u64.wrap ((rd l0 a0))) * (IntKind.u64.wrap (rd l1 a1)))) + (IntKind.u64.wrap (rd a2 (ji14))))))) % 4294967296)) := ⟨_, rfl⟩
               replace H : (whole_times.l1 k2 l1 y502 a0 (rd l0 a0) ((IntKind.u64.wrap (a4 + (IntKind.u64.wrap ((IntKind.u64.wrap ((IntKind.u64.wrap ((rd l0 a0))) * (IntKind.u64.wrap (rd l1 a1)))) + (IntKind.u64.wrap (rd a2 (ji14))))))) / 4294967296) l0 (l0.length : Int) a0 l1 (l1.length : Int) (wrap64 (a1 + 1))) = some r := by first | (rw [hy502]; with_reducible exact H) | (have a8 := (Option.bind_some _ _).symm.trans H; rw [hy502]; with_reducible exact a8) | (have a8 := (Option.bind_some _ _).symm.trans H; with_reducible exact a8) | with_reducible exact H | (rw [hy502]; exact H) | exact H
               have aL := Aside0.mk hy502
               clear hy502
               have H' := Aside0.mk H
               clear H
               have ah : 0 ≤ (a1 : Int) := of_decide_eq_true asm
               have ag : a1 < (l1.length : Int) := of_decide_eq_true asm
               obtain ⟨bC, aX, a6⟩ := Kd.at_int HR1.out a1 ah ag
               cases aX
               replace a6 := (HB.out.cell (World.block_lt_of_cell? w _ a6)).trans a6
               replace ah := eq_true ah
               replace ag := eq_true ag
               obtain ⟨Ao18, bg, b1⟩ := sl a3; cases b1
               have aj : 0 ≤ ((ji14) : Int) := of_decide_eq_true asm
               have al : (ji14) < (a2.length : Int) := of_decide_eq_true asm
               obtain ⟨bn, aU, ac⟩ := Kd.at_int (Kd.R_reads' a3.out).2.2 (ji14) aj al
               cases aU
               replace aj := eq_true aj
               replace al := eq_true al
               have b0 : 0 ≤ ((ji14) : Int) := of_decide_eq_true asm
               have aY : ((ji14) : Int) < ((a2.length : Int) : Int) := of_decide_eq_true asm
               obtain ⟨ae, co17, aC, ar, bb, cl17, aJ⟩ := Kd.R_form a3.out (by omega)
               (first | cases aC | (injection aC with ea_ en_ ec_; (first | subst ea_ | (injection ea_ with ea_; subst ea_)); subst ec_; clear en_))
               have bd := Aside0.mk ar
               have GG17 := Aside0.mk aJ
               clear ar bb aJ
               (first | simp only [add_plain] at ac | skip)
               obtain ⟨b4, bf⟩ := Kd.R_celln 0 a3.out ((ji14) : Int) b0 aY
               replace b0 := eq_true b0
               replace aY := eq_true aY
               have af := Kd.R_putg a3.out ((ji14) : Int) ((IntKind.u64.wrap (a4 + (IntKind.u64.wrap ((IntKind.u64.wrap ((IntKind.u64.wrap ((rd l0 a0))) * (IntKind.u64.wrap (rd l1 a1)))) + (IntKind.u64.wrap (rd a2 (ji14))))))) % 4294967296)
               go_wp2_with (first | ((with_reducible refine gate_store (t := 118) (p := 52) rfl ?_); refine store_event (t := 118) (p := 52) (v := ?vo_w20) (w1 := (wr.setCell ⟨ae, ((ji14) : Int).toNat, none⟩ (.int .u32 ((IntKind.u64.wrap (a4 + (IntKind.u64.wrap ((IntKind.u64.wrap ((IntKind.u64.wrap ((rd l0 a0))) * (IntKind.u64.wrap (rd l1 a1)))) + (IntKind.u64.wrap (rd a2 (ji14))))))) % 4294967296)))) ?hg ?ho ?hn ?hr ?_; (case ho => rfl); (case hg => rfl); (case hn => rfl); (case hr => first | (go_simp; done) | (go_simp; rfl)); intro bh hw; have hg : wr.grownBy bh (some ae) := (by rw [hw]; exact af.2); have an : Kd.R (Kd.int .u32) 118 bh w.heap.size (fun k_ => (w.heap.size ≤ k_)) (.slice (some ⟨ae, 0, none⟩) a2.length bg) y502 := (by rw [hw, aL.out]; exact af.1); clear af; replace a3 := Aside0.mk an; replace HB := Aside0.mk ((by rw [hw]; exact below_set (HB.out) bd.out : Below w.heap.size w bh)); clear hg hw an))
               go_roundg k2
               case measure => have := aQ.out; have := aP.out; omega
               case rel => exact ⟨(y502), ((IntKind.u64.wrap (a4 + (IntKind.u64.wrap ((IntKind.u64.wrap ((IntKind.u64.wrap ((rd l0 a0))) * (IntKind.u64.wrap (rd l1 a1)))) + (IntKind.u64.wrap (rd a2 (ji14))))))) / 4294967296), (wrap64 (a1 + 1)), (by first | rfl | (simp; done) | (simp only [← hji14] <;> (first | rfl | simp)) | (simp [*]; done)), sd, H', ⟨by have := aQ.out; have := aP.out; omega⟩, ⟨rb a3⟩, ⟨bw⟩⟩
              ·rw [if_neg aN] at H
               exact absurd H (by simp)
             ·rw [if_neg aT] at H
              exact absurd H (by simp)
            ·rw [if_neg aR] at H
             exact absurd H (by simp)
           ·rw [if_neg aM] at H
            exact absurd H (by simp)
          ·rw [if_neg am] at H
           have aw : decide (a1 < (l1.length : Int)) = false := decide_eq_false am
           clear am
           obtain ⟨ji21, hji21⟩ : ∃ j_ : Int, (wrap64 (a0 + (l1.length : Int))) = j_ := ⟨_, rfl⟩
           replace H : (if 0 ≤ (ji21) then (if (ji21) < (a2.length : Int) then (whole_times.l0 k2 l1 (a2.set ((ji21) : Int).toNat ((a4) % 4294967296)) l0 (l0.length : Int) (wrap64 (a0 + 1))) else (none)) else (none)) = some r := by first | (rw [hji21] at H; exact H) | (simp only [hji21] at H ⊢; exact H)
           have b7 : (IntKind.i64.wrap (a0 + (l1.length : Int))) = ji21 := (i64_w _).trans hji21
           by_cases aO : 0 ≤ (ji21)
           ·rw [if_pos aO] at H
            have bo : decide (0 ≤ (ji21)) = true := decide_eq_true aO
            clear aO
            by_cases aS : (ji21) < (a2.length : Int)
            ·rw [if_pos aS] at H
             have bm : decide ((ji21) < (a2.length : Int)) = true := decide_eq_true aS
             clear aS
             obtain ⟨y503, hy503⟩ : ∃ y_ : List Int, y_ = (a2.set ((ji21) : Int).toNat ((a4) % 4294967296)) := ⟨_, rfl⟩
             replace H : (whole_times.l0 k2 l1 y503 l0 (l0.length : Int) (wrap64 (a0 + 1))) = some r := by first | (rw [hy503]; with_reducible exact H) | (have a8 := (Option.bind_some _ _).symm.trans H; rw [hy503]; with_reducible exact a8) | (have a8 := (Option.bind_some _ _).symm.trans H; with_reducible exact a8) | with_reducible exact H | (rw [hy503]; exact H) | exact H
             have az := Aside0.mk hy503
             clear hy503
             have H' := Aside0.mk H
             clear H
             have b5 : 0 ≤ ((ji21) : Int) := of_decide_eq_true asm
             have aW : ((ji21) : Int) < ((a2.length : Int) : Int) := of_decide_eq_true asm
             obtain ⟨ak, b6, aF, ap, ba, cl24, aG⟩ := Kd.R_form a3.out (by omega)
             (first | cases aF | (injection aF with ea_ en_ ec_; (first | subst ea_ | (injection ea_ with ea_; subst ea_)); subst ec_; clear en_))
             have bj := Aside0.mk ap
             have GG24 := Aside0.mk aG
             clear ap ba aG
             obtain ⟨b8, aV⟩ := Kd.R_celln 0 a3.out ((ji21) : Int) b5 aW
             replace b5 := eq_true b5
             replace aW := eq_true aW
             have ai := Kd.R_putg a3.out ((ji21) : Int) ((a4) % 4294967296)
             go_wp2_with (first | ((with_reducible refine gate_store (t := 118) (p := 63) rfl ?_); refine store_event (t := 118) (p := 63) (v := ?vo_w26) (w1 := (wr.setCell ⟨ak, ((ji21) : Int).toNat, none⟩ (.int .u32 ((a4) % 4294967296)))) ?hg ?ho ?hn ?hr ?_; (case ho => rfl); (case hg => rfl); (case hn => rfl); (case hr => first | (go_simp; done) | (go_simp; rfl)); intro b9 hw; have hg : wr.grownBy b9 (some ak) := (by rw [hw]; exact ai.2); have an : Kd.R (Kd.int .u32) 118 b9 w.heap.size (fun k_ => (w.heap.size ≤ k_)) (.slice (some ⟨ak, 0, none⟩) a2.length b6) y503 := (by rw [hw, az.out]; exact ai.1); clear ai; replace a3 := Aside0.mk an; replace HB := Aside0.mk ((by rw [hw]; exact below_set (HB.out) bj.out : Below w.heap.size w b9)); clear hg hw an))
             go_roundg k2
             case measure => have := aQ.out; have := aP.out; omega
             case rel => exact ⟨(y503), (wrap64 (a0 + 1)), sd, H', ⟨by have := aQ.out; have := aP.out; omega⟩, ⟨rb a3⟩, ⟨bw⟩⟩
            ·rw [if_neg aS] at H
             exact absurd H (by simp)
           ·rw [if_neg aO] at H
            exact absurd H (by simp)
       ·rw [if_neg c10] at H
        exact absurd H (by simp)
      ·rw [if_neg c9] at H
       exact absurd H (by simp)
     ·rw [if_neg c8] at H
      have aE : decide (a0 < (l0.length : Int)) = false := decide_eq_false c8
      clear c8
      obtain ⟨b3, A27, H⟩ := bs H
      obtain rfl := Option.some.inj H
      obtain ⟨aK, ao, aZ⟩ := sl a3; cases aZ
      go_wp2_with (first | ((with_reducible refine ga 92 rfl ?_); refine gc (some 66) Try.func92 #[.slice aK a7.length ao] (whole_words_trim.calls k1 (fun k_ => some k_ = (.slice aK a7.length ao : Value).ownBlock) _ _ a7 b3 _ (Kd.R_V (Kd.R_tight rfl (a3.out))) A27.out) ?_; rintro e w29 ⟨v497, rfl, bu, hb⟩; refine ⟨_, rfl, ?_⟩; have aq := Aside0.mk (Kd.V_lower (Kd.V_mono (ok' := fun k_ => (w.heap.size ≤ k_)) bu (fun k_ hk_ => Or.elim hk_ (fun hs_ => ((a3.out).1 k_ hs_.symm)) (fun hn_ => (Nat.le_trans (sz HB) hn_)))) (sz HB)); replace a3 := rB a3 hb; replace HB := hB HB hb; clear hb bu))
      go_ret
      exact ⟨_, by first | rfl | (simp [errW_none, errW_some] <;> rfl) | (simp only [← hji3]; first | rfl | (simp [errW_none, errW_some] <;> rfl)) | (simp [*, errW_none, errW_some] <;> rfl), vb aq, bw⟩
  ·rw [if_neg c5] at H
   exact absurd H (by simp)
 ·rw [if_neg c4] at H
  exact absurd H (by simp)
end Go.Proofs.Ytfjbhccapgnkiaa.P
namespace Go.Proofs.Ytfjbhccapgnkiaa.P
open Go.RowKit Go.Proofs.YtfjbhccapgnkiaaW.PrintWords Go.Proofs.YtfjbhccapgnkiaaW.PrintLast Go.Proofs.YtfjbhccapgnkiaaW.PrintMore
attribute [local go_sem] max2_int min2_int max_two min_two max_three min_three max_four min_four
set_option linter.unusedVariables false
set_option maxHeartbeats 16000000
set_option maxRecDepth 100000
set_option linter.unusedSimpArgs false
/-! ### whole_Mul: function 26 -/
def whole_Mul.j0 : Nat → Bool → Bool → List Int → Bool → List Int → Option (Bool × List Int × Int)
 | 0, _, _, _, _, _ => none
 | k + 1, x13, a3, a4, a1, a2 => if x13 = true then (some (false, ([] : List Int), 1)) else ((whole_wordsOf.f k a4).bind fun a7 => ((whole_wordsOf.f k a2).bind fun a6 => ((whole_times.f k a7 a6).bind fun a5 => ((whole_fits.f k (a3 != a1) a5).bind fun a0 => (some (a0.1, a0.2.1, a0.2.2))))))
def whole_Mul.f (k : Nat) (a0 : Bool) (a1 : List Int) (a3 : Bool) (a2 : List Int) : Option (Bool × List Int × Int) := (whole_Right.f a0 a1).bind fun a4 => (if a4 = true then ((whole_Right.f a3 a2).bind fun a5 => (whole_Mul.j0 k (!a5) a0 a1 a3 a2)) else (whole_Mul.j0 k true a0 a1 a3 a2))
theorem whole_Mul.mono_l : ∀ k, (∀ y0 y1 y2 y3 y4, LeO (whole_Mul.j0 k y0 y1 y2 y3 y4) (whole_Mul.j0 (k + 1) y0 y1 y2 y3 y4))
 | 0 => fun _ _ _ _ _ r h => by simp [whole_Mul.j0] at h
 | k + 1 => by
  have a0 := whole_Mul.mono_l k
  ·intro y0 y1 y2 y3 y4
   unfold whole_Mul.j0
   repeat' first | with_reducible exact a0 _ _ _ _ _ | with_reducible exact whole_fits.mono _ _ _ | with_reducible exact whole_times.mono _ _ _ | with_reducible exact whole_wordsOf.mono _ _ | with_reducible exact LeO.refl _ | with_reducible exact LeO.none _ | with_reducible refine LeO.ite ?_ ?_ | with_reducible refine LeO.bind ?_ (fun _ => ?_) | exact a0 _ _ _ _ _ | exact whole_fits.mono _ _ _ | exact whole_times.mono _ _ _ | exact whole_wordsOf.mono _ _ | exact LeO.none _ | refine LeO.ite ?_ ?_ | refine LeO.bind ?_ (fun _ => ?_)
theorem whole_Mul.mono : ∀ a0 a1 a2 a3 k, LeO (whole_Mul.f k a0 a1 a2 a3) (whole_Mul.f (k + 1) a0 a1 a2 a3) := by
 intro a0 a1 a2 a3 k
 have a4 := whole_Mul.mono_l k
 unfold whole_Mul.f
 repeat' first | with_reducible exact a4 _ _ _ _ _ | with_reducible exact whole_fits.mono _ _ _ | with_reducible exact whole_times.mono _ _ _ | with_reducible exact whole_wordsOf.mono _ _ | with_reducible exact LeO.refl _ | with_reducible exact LeO.none _ | with_reducible refine LeO.ite ?_ ?_ | with_reducible refine LeO.bind ?_ (fun _ => ?_) | exact a4 _ _ _ _ _ | exact whole_fits.mono _ _ _ | exact whole_times.mono _ _ _ | exact whole_wordsOf.mono _ _ | exact LeO.none _ | refine LeO.ite ?_ ?_ | refine LeO.bind ?_ (fun _ => ?_)
def whole_Mul.T3 : Bool × List (List Nat × List Nat) := (true, [([], []), ([0], [0]), ([], []), ([2], [2]), ([1, 3], [1, 3]), ([], []), ([5], [5]), ([6], [6]), ([], []), ([8], [8]), ([9, 7], [9]), ([7, 10, 10], [7, 10]), ([4, 11, 11], [4, 11]), ([12], [12]), ([12], [12]), ([13, 12, 0, 1, 2, 3, 4, 5, 6, 7, 8, 9, 10, 11, 12, 13, 14], [13]), ([14, 15, 0, 1, 2, 3, 4, 5, 6, 7, 8, 9, 10, 11, 12, 13, 14, 15], [14])])
def whole_Mul.B3 : List Nat := [0, 1, 0, 4, 15, 0, 32, 96, 0, 256, 992, 2016, 4095, 8191, 8191, 32767, 65535]
theorem whole_Mul.tab3 : rtab .any (opsOf Try.f26 3) = whole_Mul.T3 := by kernel_rfl
theorem whole_Mul.bits3 : waitsOk whole_Mul.T3.2 whole_Mul.B3 = true := by kernel_rfl
theorem whole_Mul.calls (k : Nat) (a7 : Bool) (ag : Option Addr) (af : Nat) (a5 : List Int) (ab : Bool) (al : Option Addr) (am : Nat) (a8 : List Int) (r1 : Bool) (r2 : List Int) (r3 : Int) (w : World) (aB : Kd.C (Kd.int .u8) w ag a5.length a5) (aA : a5.length ≤ af) (ay : Kd.C (Kd.int .u8) w al a8.length a8) (aC : a8.length ≤ am) (h : whole_Mul.f k a7 a5 ab a8 = some (r1, r2, r3)) :
  Calls Try.prog 26 #[.agg #[.bool a7, .slice ag a5.length af], .agg #[.bool ab, .slice al a8.length am]] w fun e w' => ∃ ba : Value, e = .returned (.tuple #[.agg #[.bool r1, ba], .int .i64 r3]) ∧ Kd.R (Kd.int .u8) 5 w' w.heap.size (fun _ => True) ba r2 ∧ Below w.heap.size w w' := by
 have hu25 := Try.underlying25
 have aq := Aside0.mk aB
 have ap := Aside0.mk aA
 clear aB aA
 have aw := Aside0.mk ay
 have az := Aside0.mk aC
 clear ay aC
 have HB := Aside0.mk (Below.refl w.heap.size w)
 have H : ((whole_Right.f a7 a5).bind fun aD => (if aD = true then ((whole_Right.f ab a8).bind fun ar => (whole_Mul.j0 k (!ar) a7 a5 ab a8)) else (whole_Mul.j0 k true a7 a5 ab a8))) = some (r1, r2, r3) := h
 clear h
 have b2 := Aside0.mk H
 clear H
 go_enter Try.func26, Try.ntmps26
 go_upto_region 1 with (first | ((with_reducible refine gd 2 rfl ?_); refine bX 2 rfl HB #[.bool a7, .slice ag a5.length af] 25 ?_; intro ai w4 a0 bd hg hb; replace HB := hB HB hb; clear hb hg) | ((with_reducible refine gd 3 rfl ?_); refine bX 3 rfl HB #[.bool ab, .slice al a8.length am] 25 ?_; intro aj w5 a1 bh hg hb; obtain ⟨ae, aG⟩ := nB a0 hg; replace a0 := kB a0 hb; replace HB := hB HB hb; clear hb hg) | ((with_reducible refine gd 4 rfl ?_); refine bX 4 rfl HB #[.bool false, .slice none 0 0] 25 ?_; intro ad w6 a2 b9 hg hb; obtain ⟨a3, aa⟩ := nB a0 hg; obtain ⟨a4, a9⟩ := nB a1 hg; replace a0 := kB a0 hb; replace a1 := kB a1 hb; replace HB := hB HB hb; clear hb hg))
 (try simp only [Act.put, List.setIfInBounds_toArray, List.set_cons_zero, List.set_cons_succ])
 go_cut [13] (fun v13 wc => ∃ (kq : Nat) (an : Bool), v13 = .bool an ∧ Aside0 (whole_Mul.j0 kq an a7 a5 ab a8 = some (r1, r2, r3)) ∧ Aside0 (kq ≤ k) ∧ Aside0 (wc.heap[ai]? = some (.cells #[.bool a7, (.slice ag a5.length af)] 25 (0, 0))) ∧ Aside0 (wc.heap[aj]? = some (.cells #[.bool ab, (.slice al a8.length am)] 25 (0, 0))) ∧ Aside0 (wc.heap[ad]? = some (.cells #[.bool false, (.slice none 0 0)] 25 (0, 0))) ∧ Aside0 (Below w.heap.size w wc))
 case first =>
  have H := b2.out
  clear b2
  obtain ⟨aD, A7, H⟩ := bs H
  by_cases c8 : aD = true
  ·subst c8
   replace H := ip H
   obtain ⟨ar, A9, H⟩ := bs H
   have H' := Aside0.mk H
   clear H
   have hn10 := nn ae
   have hn11 := nn a3
   have bf := zf2 a0
   go_wp2_with (first | ((with_reducible refine ga 39 rfl ?_); refine gc (some 7) Try.func39 #[.agg #[.bool a7, .slice ag a5.length af]] (whole_Right.calls a7 _ _ a5 true _ (cb aq HB) ap.out A7.out) ?_; rintro e w13 ⟨rfl, hb⟩; refine ⟨_, rfl, ?_⟩; replace a0 := kB a0 hb; replace a1 := kB a1 hb; replace a2 := kB a2 hb; replace HB := hB HB hb; clear hb; have hn14 := nn a4; have b7 := zf2 a1) | (go_at_call 39; (with_reducible refine (whole_Right.calls ab _ _ a8 ar _ ?side1 ?side2 A9.out).mono ?_); (case side1 => exact cb aw HB); (case side2 => exact az.out); rintro e w16 ⟨rfl, hb⟩; replace a0 := kB a0 hb; replace a1 := kB a1 hb; replace a2 := kB a2 hb; replace HB := hB HB hb; clear hb))
   go_meet
   case rel => exact ⟨_, (!ar), sd, H', ⟨le_⟩, ⟨bk⟩, ⟨bk⟩, ⟨bk⟩, ⟨bw⟩⟩
  ·replace c8 := Bool.eq_false_iff.mpr c8
   subst c8
   replace H := iq H
   have H' := Aside0.mk H
   clear H
   have hn17 := nn ae
   have hn18 := nn a3
   have bb := zf2 a0
   go_wp2_with (first | ((with_reducible refine ga 39 rfl ?_); refine gc (some 7) Try.func39 #[.agg #[.bool a7, .slice ag a5.length af]] (whole_Right.calls a7 _ _ a5 false _ (cb aq HB) ap.out A7.out) ?_; rintro e w20 ⟨rfl, hb⟩; refine ⟨_, rfl, ?_⟩; replace a0 := kB a0 hb; replace a1 := kB a1 hb; replace a2 := kB a2 hb; replace HB := hB HB hb; clear hb))
   go_meet
   case rel => exact ⟨_, (true), sd, H', ⟨le_⟩, ⟨bk⟩, ⟨bk⟩, ⟨bk⟩, ⟨bw⟩⟩
 case rest =>
  clear b2
  obtain ⟨kq, an, rfl, HA, HJ2, a0, a1, a2, HB⟩ := hcut
  cases kq with
  | zero => exact absurd HA.out (by simp [whole_Mul.j0])
  | succ kj2 =>
   have H := HA.out
   clear HA
   simp only [whole_Mul.j0] at H
   by_cases aV : an = true
   ·subst aV
    replace H := ip H
    simp only [Option.some.injEq, Prod.mk.injEq] at H
    obtain ⟨rfl, rfl, rfl⟩ := H
    have hn22 := nn aa
    have hn23 := nn a9
    have bi := zf2 a2
    go_wp2
    refine bodyPost_ret (results_ct rfl _ _ ad 25 #[.bool false, .slice none 0 0] (0, 0) _ rfl (bp a2) Try.underlying25 rfl (by kernel_rfl)) rfl ?_
    exact ⟨_, er, nl, bw⟩
   ·replace aV := Bool.eq_false_iff.mpr aV
    subst aV
    replace H := iq H
    obtain ⟨av, A25, H⟩ := bs H
    obtain ⟨au, A26, H⟩ := bs H
    obtain ⟨aE, A27, H⟩ := bs H
    obtain ⟨⟨aM, aJ, b5⟩, A28, H⟩ := bs H
    simp only [Option.some.injEq, Prod.mk.injEq] at H
    obtain ⟨rfl, rfl, rfl⟩ := H
    try go_wp2
    replace a0 := Aside0.mk (blk_drew a0.out)
    replace a1 := Aside0.mk (blk_drew a1.out)
    replace a2 := Aside0.mk (blk_drew a2.out)
    replace HB := Aside0.mk (below_drew1 HB.out)
    refine st 17 (fun w' => w'.cell? ⟨ai, 0, none⟩ = some (.bool a7) ∧ w'.cell? ⟨ai, 1, none⟩ = some (.slice ag a5.length af) ∧ w'.cell? ⟨aj, 0, none⟩ = some (.bool ab) ∧ w'.cell? ⟨aj, 1, none⟩ = some (.slice al a8.length am)) [] ⟨bc a0 0, bc a0 1, bc a1 0, bc a1 1⟩ (fun hHeld => ?_); refine with_tabW whole_Mul.tab3 whole_Mul.bits3 (fun ah aO => ?_)
    generalize wc.drew = w29 at a0 a1 a2 HB hHeld ⊢
    refine pu ah 0 (some 15) ?_
    refine pu ah 2 (some 17) ?_
    refine pu ah 5 (some 20) ?_
    refine pu ah 8 (some 23) ?_
    refine tk ah aO 1 (some 16) hHeld ?_
    refine tk ah aO 3 (some 18) hHeld ?_
    refine pu ah 4 (some 19) ?_
    refine tk ah aO 6 (some 21) hHeld ?_
    refine tk ah aO 9 (some 24) hHeld ?_
    refine on ah 7 (some 22) fun K hK => ?_
    refine go_ Try.func75 #[.slice ag a5.length af] ?_
    with_reducible refine (whole_wordsOf.calls kj2 (fun k_ => k_ < w.heap.size) _ _ a5 av _ ?side1 A25.out).mono ?_
    (case side1 => exact Kd.V_mk ap.out (Kd.F_below (Kd.C_F (Kd.heap_int .u8) aq.out) bw))
    rintro e w30 ⟨v510, rfl, ao, hb⟩
    refine ⟨_, rfl, ?_⟩
    have a6 := rL HB (Kd.R_mono (ok' := fun k_ => True) ao (fun _ aF => trivial))
    replace a0 := kB a0 hb
    replace a1 := kB a1 hb
    replace a2 := kB a2 hb
    replace HB := hB HB hb
    clear hb ao
    refine hK.out _ _ ⟨bc a0 0, bc a0 1, bc a1 0, bc a1 1⟩ (fun hHeld => ?_)
    clear hK K
    refine nm (some 22) ?_
    refine on ah 10 (some 25) fun K hK => ?_
    refine go_ Try.func75 #[.slice al a8.length am] ?_
    with_reducible refine (whole_wordsOf.calls kj2 (fun k_ => k_ < w.heap.size) _ _ a8 au _ ?side1 A26.out).mono ?_
    (case side1 => exact Kd.V_mk az.out (Kd.F_below (Kd.C_F (Kd.heap_int .u8) aw.out) bw))
    rintro e w31 ⟨v513, rfl, ao, hb⟩
    refine ⟨_, rfl, ?_⟩
    have ac := rL HB (Kd.R_new' (Kd.R_mono (ok' := fun k_ => True) ao (fun _ aF => trivial)) (Kd.R_lt (rb a6)))
    replace a6 := rE a6 ao hb
    replace a0 := kB a0 hb
    replace a1 := kB a1 hb
    replace a2 := kB a2 hb
    replace HB := hB HB hb
    clear hb ao
    obtain ⟨aH, aK, b0⟩ := sl a6; cases b0
    obtain ⟨aI, aL, aY⟩ := sl ac; cases aY
    refine hK.out _ _ ⟨bc a0 0, bc a0 1, bc a1 0, bc a1 1⟩ (fun hHeld => ?_)
    clear hK K
    refine nm (some 25) ?_
    refine on ah 11 (some 26) fun K hK => ?_
    refine go_ Try.func74 #[.slice aH av.length aK, .slice aI au.length aL] ?_
    with_reducible refine (whole_times.calls kj2 _ _ av _ _ au aE _ ?side1 ?side2 ?side3 ?side4 A27.out).mono ?_
    (case side1 => exact cr a6)
    (case side2 => exact rl a6)
    (case side3 => exact cr ac)
    (case side4 => exact rl ac)
    rintro e w34 ⟨v516, rfl, ao, hb⟩
    refine ⟨_, rfl, ?_⟩
    have ak := Aside0.mk (Kd.V_lower (Kd.V_mono (ok' := fun k_ => some k_ ≠ (.slice aH av.length aK : Value).ownBlock ∧ some k_ ≠ (.slice aI au.length aL : Value).ownBlock ∧ k_ ≠ ai ∧ k_ ≠ aj ∧ k_ ≠ ad) ao (fun k_ aF => ⟨(Kd.fresh' (Kd.R_lt (rb a6)) k_ aF), (Kd.fresh' (Kd.R_lt (rb ac)) k_ aF), (Kd.freshB (g := ai) (o := .cells #[.bool a7, .slice ag a5.length af] 25 (0, 0)) bk k_ aF), (Kd.freshB (g := aj) (o := .cells #[.bool ab, .slice al a8.length am] 25 (0, 0)) bk k_ aF), (Kd.freshB (g := ad) (o := .cells #[.bool false, .slice none 0 0] 25 (0, 0)) bk k_ aF)⟩)) (sz HB))
    replace a6 := rB a6 hb
    replace ac := rB ac hb
    replace a0 := kB a0 hb
    replace a1 := kB a1 hb
    replace a2 := kB a2 hb
    replace HB := hB HB hb
    clear hb ao
    obtain ⟨aX, b3, aZ⟩ := vl ak; cases aZ
    refine hK.out _ _ ⟨bc a0 0, bc a0 1, bc a1 0, bc a1 1⟩ (fun hHeld => ?_)
    clear hK K
    refine nm (some 26) ?_
    refine on ah 12 (some 27) fun K hK => ?_
    refine go_ Try.func73 #[.bool (a7 != ab), .slice aX aE.length b3] ?_
    with_reducible refine (whole_fits.calls kj2 (a7 != ab) _ _ aE aM aJ b5 _ ?side1 ?side2 A28.out).mono ?_
    (case side1 => exact cv ak)
    (case side2 => exact (Kd.V_reads' ak.out).2.1)
    rintro e be ⟨v520, rfl, ao, hb⟩
    refine ⟨_, rfl, ?_⟩
    have ax := rL HB ao
    replace a6 := rB a6 hb
    replace ac := rB ac hb
    replace ak := vE ak ao hb
    replace a0 := kB a0 hb
    replace a1 := kB a1 hb
    replace a2 := kB a2 hb
    replace HB := hB HB hb
    clear hb ao
    obtain ⟨b4, b6, b1⟩ := sl ax; cases b1
    refine hK.out _ _ ⟨bc a0 0, bc a0 1, bc a1 0, bc a1 1⟩ (fun hHeld => ?_)
    clear hK K
    refine nm (some 27) ?_
    refine pu ah 13 (some 28) ?_
    refine pu ah 14 (some 29) ?_
    refine on ah 15 none fun K hK => ?_
    have hs37 : be.cell? ⟨ad, 0, none⟩ = some (.bool false) := bc a2 0
    have b8 := blk_frozen a2.out 0
    have aP := a3.out
    have aW := a4.out
    have aT := aa.out
    have aQ := a9.out
    have hs39 : be.cell? ⟨ad, 1, none⟩ = some (.slice none 0 0) := bc a2 1
    have bg := blk_frozen a2.out 1
    have aR := a3.out
    have aN := a4.out
    have aS := aa.out
    have aU := a9.out
    refine skip_ (w1 := ?_) (by rfl) rfl ?_ ?_
    rotate_left
    ·go_simp
     rfl
    refine hK.out _ _ ⟨(cf a3 (cf a3 hHeld.1)), (cf a3 (cf a3 hHeld.2.1)), (cf a4 (cf a4 hHeld.2.2.1)), (cf a4 (cf a4 hHeld.2.2.2))⟩ (fun hHeld => ?_)
    clear hK K
    refine pu ah 16 (some 5) ?_
    refine dn ah ?_
    try go_wp2
    refine bodyPost_ret (results_ct rfl _ _ ad 25 #[.bool aM, .slice b4 aJ.length b6] (0, 0) _ rfl (bp a2) Try.underlying25 rfl (by kernel_rfl)) rfl ?_
    exact ⟨_, er, rf (rt ax a2), bw⟩
end Go.Proofs.Ytfjbhccapgnkiaa.P
