import Derived.Test.YtfjbhccapgnkiaaA2
import Derived.Test.YtfjbhccapgnkiaaC1b
namespace Go.Proofs.Ytfjbhccapgnkiaa.P
open Go.RowKit Go.Proofs.YtfjbhccapgnkiaaW.PrintWords Go.Proofs.YtfjbhccapgnkiaaW.PrintLast Go.Proofs.YtfjbhccapgnkiaaW.PrintMore
attribute [local go_sem] max2_int min2_int max_two min_two max_three min_three max_four min_four
set_option linter.unusedVariables false
set_option maxHeartbeats 16000000
set_option maxRecDepth 100000
set_option linter.unusedSimpArgs false
theorem field24_1 (b v : Value) (w : World) : Sem.run Try.prog (Instr.field 24 (.agg #[b, v]) 1) w = .ok v w := by kernel_rfl
theorem field24_0 (b v : Value) (w : World) : Sem.run Try.prog (Instr.field 24 (.agg #[b, v]) 0) w = .ok b w := by kernel_rfl
theorem field25_1 (b v : Value) (w : World) : Sem.run Try.prog (Instr.field 25 (.agg #[b, v]) 1) w = .ok v w := by kernel_rfl
theorem field25_0 (b v : Value) (w : World) : Sem.run Try.prog (Instr.field 25 (.agg #[b, v]) 0) w = .ok b w := by kernel_rfl
end Go.Proofs.Ytfjbhccapgnkiaa.P
namespace Go.Proofs.Ytfjbhccapgnkiaa.P
open Go.RowKit Go.Proofs.YtfjbhccapgnkiaaW.PrintWords Go.Proofs.YtfjbhccapgnkiaaW.PrintLast Go.Proofs.YtfjbhccapgnkiaaW.PrintMore
attribute [local go_sem] max2_int min2_int max_two min_two max_three min_three max_four min_four
set_option linter.unusedVariables false
set_option maxHeartbeats 16000000
set_option maxRecDepth 100000
set_option linter.unusedSimpArgs false
attribute [local go_sem] field24_0 field24_1 field25_0 field25_1
/-! ### lapidaryref02_divide: function 112 -/
mutual
def lapidaryref02_divide.l0 : Nat → List Int → List Int → List Int → List Int → Int → Option (List Int × List Int)
 | 0, _, _, _, _, _ => none
 | k + 1, x0, x1, x6, x7, x8 => if x8 < (x0.length : Int) then ((lapidaryref02_made.f false x7).bind fun a0 => (if 0 ≤ x8 then ((some (([rd x0 x8] : List Int) : List Int)).bind fun a1 => (if a0.2.length + a1.length < 140737488355328 then ((lapidaryref02_made.f false (a0.2 ++ a1)).bind fun a2 => (lapidaryref02_divide.l1 k x0 x1 x6 a2.2 x8 0)) else (none))) else (none))) else (some (x6, x7))
def lapidaryref02_divide.l1 : Nat → List Int → List Int → List Int → List Int → Int → Int → Option (List Int × List Int)
 | 0, _, _, _, _, _, _ => none
 | k + 1, x0, x1, x6, x7, x8, x9 => (lapidaryref02_cmp.f k x7 x1).bind fun a3 => (if a3 ≥ 0 then ((lapidaryref02_less.f k x7 x1).bind fun a2 => ((lapidaryref02_made.f false a2).bind fun a1 => (lapidaryref02_divide.l1 k x0 x1 x6 a1.2 x8 ((x9 + 1) % 256)))) else ((some (([x9] : List Int) : List Int)).bind fun a0 => (if x6.length + a0.length < 140737488355328 then (lapidaryref02_divide.l0 k x0 x1 (x6 ++ a0) x7 (wrap64 (x8 + 1))) else (none))))
end
def lapidaryref02_divide.f (k : Nat) (l0 : List Int) (l1 : List Int) : Option (List Int × List Int) := lapidaryref02_divide.l0 k l0 l1 ([] : List Int) ([] : List Int) 0
theorem lapidaryref02_divide.mono_l : ∀ k, (∀ y0 y1 y2 y3 y4, LeO (lapidaryref02_divide.l0 k y0 y1 y2 y3 y4) (lapidaryref02_divide.l0 (k + 1) y0 y1 y2 y3 y4)) ∧ (∀ y0 y1 y2 y3 y4 y5, LeO (lapidaryref02_divide.l1 k y0 y1 y2 y3 y4 y5) (lapidaryref02_divide.l1 (k + 1) y0 y1 y2 y3 y4 y5))
 | 0 => ⟨fun _ _ _ _ _ r h => by simp [lapidaryref02_divide.l0] at h, fun _ _ _ _ _ _ r h => by simp [lapidaryref02_divide.l1] at h⟩
 | k + 1 => by
  obtain ⟨a0, a1⟩ := lapidaryref02_divide.mono_l k
  refine ⟨?_, ?_⟩
  ·intro y0 y1 y2 y3 y4
   unfold lapidaryref02_divide.l0
   repeat' first | with_reducible exact a0 _ _ _ _ _ | with_reducible exact a1 _ _ _ _ _ _ | with_reducible exact lapidaryref02_cmp.mono _ _ _ | with_reducible exact lapidaryref02_less.mono _ _ _ | with_reducible exact LeO.refl _ | with_reducible exact LeO.none _ | with_reducible refine LeO.ite ?_ ?_ | with_reducible refine LeO.bind ?_ (fun _ => ?_) | exact a0 _ _ _ _ _ | exact a1 _ _ _ _ _ _ | exact lapidaryref02_cmp.mono _ _ _ | exact lapidaryref02_less.mono _ _ _ | exact LeO.none _ | refine LeO.ite ?_ ?_ | refine LeO.bind ?_ (fun _ => ?_)
  ·intro y0 y1 y2 y3 y4 y5
   unfold lapidaryref02_divide.l1
   repeat' first | with_reducible exact a0 _ _ _ _ _ | with_reducible exact a1 _ _ _ _ _ _ | with_reducible exact lapidaryref02_cmp.mono _ _ _ | with_reducible exact lapidaryref02_less.mono _ _ _ | with_reducible exact LeO.refl _ | with_reducible exact LeO.none _ | with_reducible refine LeO.ite ?_ ?_ | with_reducible refine LeO.bind ?_ (fun _ => ?_) | exact a0 _ _ _ _ _ | exact a1 _ _ _ _ _ _ | exact lapidaryref02_cmp.mono _ _ _ | exact lapidaryref02_less.mono _ _ _ | exact LeO.none _ | refine LeO.ite ?_ ?_ | refine LeO.bind ?_ (fun _ => ?_)
theorem lapidaryref02_divide.mono : ∀ a0 a1 k, LeO (lapidaryref02_divide.f k a0 a1) (lapidaryref02_divide.f (k + 1) a0 a1) := by
 intro a0 a1 k
 obtain ⟨a2, a3⟩ := lapidaryref02_divide.mono_l k
 unfold lapidaryref02_divide.f
 repeat' first | with_reducible exact a2 _ _ _ _ _ | with_reducible exact a3 _ _ _ _ _ _ | with_reducible exact lapidaryref02_cmp.mono _ _ _ | with_reducible exact lapidaryref02_less.mono _ _ _ | with_reducible exact LeO.refl _ | with_reducible exact LeO.none _ | with_reducible refine LeO.ite ?_ ?_ | with_reducible refine LeO.bind ?_ (fun _ => ?_) | exact a2 _ _ _ _ _ | exact a3 _ _ _ _ _ _ | exact lapidaryref02_cmp.mono _ _ _ | exact lapidaryref02_less.mono _ _ _ | exact LeO.none _ | refine LeO.ite ?_ ?_ | refine LeO.bind ?_ (fun _ => ?_)
def lapidaryref02_divide.T6 : Bool × List (List Nat × List Nat) := (true, [([], []), ([0], [0]), ([1], [1]), ([], []), ([], []), ([3, 4], [3, 4]), ([5], [5]), ([6], [6]), ([2, 7, 1], [2, 7]), ([8, 8, 0, 1, 2, 3, 4, 5, 6, 7, 8], [0, 8])])
def lapidaryref02_divide.B6 : List Nat := [0, 1, 3, 0, 0, 24, 56, 120, 255, 511]
theorem lapidaryref02_divide.tab6 : rtab .any (opsOf Try.f112 6) = lapidaryref02_divide.T6 := by kernel_rfl
theorem lapidaryref02_divide.bits6 : waitsOk lapidaryref02_divide.T6.2 lapidaryref02_divide.B6 = true := by kernel_rfl
theorem lapidaryref02_divide.calls (k : Nat) (A0 : Option Addr) (c0 : Nat) (l0 : List Int) (A1 : Option Addr) (c1 : Nat) (l1 : List Int) (r1 : List Int) (r2 : List Int) (w : World) (bR : Kd.C (Kd.int .u8) w A0 l0.length l0) (bM : l0.length ≤ c0) (bC : Kd.C (Kd.int .u8) w A1 l1.length l1) (bG : l1.length ≤ c1) (h : lapidaryref02_divide.f k l0 l1 = some (r1, r2)) :
  Calls Try.prog 112 #[.slice A0 l0.length c0, .slice A1 l1.length c1] w fun e w' => ∃ bq b8 : Value, e = .returned (.tuple #[bq, b8]) ∧ Kd.R (Kd.int .u8) 5 w' w.heap.size (fun k_ => some k_ ≠ (b8 : Value).ownBlock) bq r1 ∧ Kd.R (Kd.int .u8) 5 w' w.heap.size (fun k_ => some k_ ≠ (bq : Value).ownBlock) b8 r2 ∧ Below w.heap.size w w' := by
 have HR0 := Aside0.mk bR
 have HC0 := Aside0.mk bM
 clear bR bM
 have bu := Aside0.mk bC
 have ba := Aside0.mk bG
 clear bC bG
 have HB := Aside0.mk (Below.refl w.heap.size w)
 have H : (lapidaryref02_divide.l0 k l0 l1 ([] : List Int) ([] : List Int) 0) = some (r1, r2) := h
 clear h
 have H' := Aside0.mk H
 clear H
 go_enter Try.func112, Try.ntmps112
 go_wp2
 go_loopg [6, 7, 8] k (fun kq v6 v7 v8 w' => ∃ (a8 : List Int) (a5 : List Int) (a2 : Int), v8 = .int .i64 a2 ∧ Aside0 (lapidaryref02_divide.l0 kq l0 l1 a8 a5 a2 = some (r1, r2)) ∧ Aside0 (kq ≤ k) ∧ Aside0 (Kd.R (Kd.int .u8) 5 w' w.heap.size (fun k_ => some k_ ≠ (v7 : Value).ownBlock) v6 a8) ∧ Aside0 (Kd.R (Kd.int .u8) 5 w' w.heap.size (fun k_ => some k_ ≠ (v6 : Value).ownBlock) v7 a5) ∧ Aside0 (Below w.heap.size w w'))
 case atStart => exact ⟨(([] : List Int)), (([] : List Int)), (0), sd, H', ⟨Nat.le_refl _⟩, ⟨nl⟩, ⟨nl⟩, ⟨bw⟩⟩
 case round =>
  clear H'
  try clear c1
  obtain ⟨a8, a5, a2, rfl, HA, b5, a1, a0, HB⟩ := hrel
  cases gk with
  | zero => exact absurd HA.out (by simp [lapidaryref02_divide.l0])
  | succ k1 =>
   have H := HA.out
   clear HA
   simp only [lapidaryref02_divide.l0] at H
   by_cases c3 : a2 < (l0.length : Int)
   ·rw [if_pos c3] at H
    have b1 : decide (a2 < (l0.length : Int)) = true := decide_eq_true c3
    clear c3
    obtain ⟨⟨aE, ad⟩, A4, H⟩ := bs H
    by_cases c5 : 0 ≤ a2
    ·rw [if_pos c5] at H
     have be : decide (0 ≤ a2) = true := decide_eq_true c5
     clear c5
     obtain ⟨y285, hy285⟩ : ∃ y_ : List Int, y_ = (([rd l0 a2] : List Int)) := ⟨_, rfl⟩
     replace H : (if ad.length + y285.length < 140737488355328 then ((lapidaryref02_made.f false (ad ++ y285)).bind fun au => (lapidaryref02_divide.l1 k1 l0 l1 a8 au.2 a2 0)) else (none)) = some (r1, r2) := by first | (rw [hy285]; with_reducible exact H) | (have al := (Option.bind_some _ _).symm.trans H; rw [hy285]; with_reducible exact al) | (have al := (Option.bind_some _ _).symm.trans H; with_reducible exact al) | with_reducible exact H | (rw [hy285]; exact H) | exact H
     have an := Aside0.mk hy285
     clear hy285
     by_cases c6 : ad.length + y285.length < 140737488355328
     ·rw [if_pos c6] at H
      have bf := Aside0.mk c6
      clear c6
      obtain ⟨y288, hy288⟩ : ∃ y_ : List Int, y_ = (ad ++ y285) := ⟨_, rfl⟩
      replace H : ((lapidaryref02_made.f false y288).bind fun au => (lapidaryref02_divide.l1 k1 l0 l1 a8 au.2 a2 0)) = some (r1, r2) := by first | (rw [hy288]; with_reducible exact H) | (have al := (Option.bind_some _ _).symm.trans H; rw [hy288]; with_reducible exact al) | (have al := (Option.bind_some _ _).symm.trans H; with_reducible exact al) | with_reducible exact H | (rw [hy288]; exact H) | exact H
      have aV := Aside0.mk hy288
      clear hy288
      obtain ⟨⟨bn, b2⟩, A7, H⟩ := bs H
      have H' := Aside0.mk H
      clear H
      obtain ⟨aq, ao, eo8⟩ := sl a0; cases eo8
      try go_wp2
      replace a1 := Aside0.mk (Kd.R_drew a1.out)
      replace a0 := Aside0.mk (Kd.R_drew a0.out)
      replace HB := Aside0.mk (below_drew1 HB.out)
      have aw : 0 ≤ (a2 : Int) := of_decide_eq_true asm
      have ax : a2 < (l0.length : Int) := of_decide_eq_true asm
      obtain ⟨ar, bi, a6⟩ := Kd.at_int HR0.out a2 aw ax
      have a3 := a6
      cases bi
      replace a6 := (HB.out.cell (World.block_lt_of_cell? w _ a6)).trans a6
      replace aw := eq_true aw
      replace ax := eq_true ax
      refine st 10 (fun w' => w'.cell? (ar.add (a2).toNat) = some (.int .u8 (rd l0 a2))) [] (((HB.out.cell (World.block_lt_of_cell? w _ a3)).trans a3)) (fun hHeld => ?_); refine with_tabW lapidaryref02_divide.tab6 lapidaryref02_divide.bits6 (fun ap HW_ => ?_)
      generalize wr.drew = w9 at a1 a0 HB a6 hHeld ⊢
      refine pu ap 0 (some 16) ?_
      refine pu ap 3 (some 19) ?_
      refine pu ap 4 (some 20) ?_
      refine pu ap 5 (some 21) ?_
      refine take_ (i := 6) (N := some 22) (v := ?_) (a' := ?_) #[true, false, false, true, true, true, true, false, false, false] rfl rfl (take_ofW ap.out HW_.out (by kernel_rfl)) (fun _ _ _ h => h) (Or.inl ⟨by rfl, ?_⟩) hHeld ?_ ?_
      rotate_left
      ·intro w' s0
       go_simp
       with_reducible rfl
      rotate_left
      ·simp only [Act.put, List.setIfInBounds_toArray, List.set_cons_zero, List.set_cons_succ, i64_w, i32_w]
       rfl
      refine join_ (σ := Value × Value) 2 #[true, true, true, true, true, true, true, true, false, false] (fun s_ => [(17, .agg #[.bool aE, s_.1]), (23, s_.2), (18, s_.1)]) (fun s_ w' => (w'.cell? (ar.add (a2).toNat) = some (.int .u8 (rd l0 a2))) ∧ (Kd.R (Kd.int .u8) 5 w' w.heap.size (fun k_ => some k_ ≠ (s_.2 : Value).ownBlock ∧ some k_ ≠ (u6 : Value).ownBlock ∧ some k_ ≠ (.slice aq a5.length ao : Value).ownBlock) s_.1 ad) ∧ (Kd.R (Kd.int .u8) 5 w' w.heap.size (fun k_ => some k_ ≠ (s_.1 : Value).ownBlock ∧ some k_ ≠ (u6 : Value).ownBlock ∧ some k_ ≠ (.slice aq a5.length ao : Value).ownBlock) s_.2 y285) ∧ (Kd.R (Kd.int .u8) 5 w' w.heap.size (fun k_ => some k_ ≠ (s_.1 : Value).ownBlock ∧ some k_ ≠ (s_.2 : Value).ownBlock ∧ some k_ ≠ (.slice aq a5.length ao : Value).ownBlock) u6 a8) ∧ (Kd.R (Kd.int .u8) 5 w' w.heap.size (fun k_ => some k_ ≠ (s_.1 : Value).ownBlock ∧ some k_ ≠ (s_.2 : Value).ownBlock ∧ some k_ ≠ (u6 : Value).ownBlock) (.slice aq a5.length ao) a5) ∧ (Below w.heap.size w w')) ?_ ?_
      rotate_left
      ·intro hCont
       refine two_ (i := 1) (j := 7) (Ni := some 17) (Nj := some 23) #[true, true, false, true, true, true, true, false, false, false] #[true, false, false, true, true, true, true, true, false, false] rfl rfl rfl rfl (two_of ap.out (by kernel_rfl)) (by decide) (by decide) (fun K hK => ?_) (fun K hK => ?_)
       ·skip
        refine go_ Try.func86 #[.bool false, .slice aq a5.length ao] ?_
        with_reducible refine (lapidaryref02_made.calls false _ _ a5 aE ad _ ?side1 ?side2 A4.out).mono ?_
        (case side1 => exact cr a0)
        (case side2 => exact rl a0)
        rintro e w10 ⟨af, rfl, aa, hb⟩
        refine ⟨_, rfl, ?_⟩
        have a7 := rL HB (rn (rn aa a1) a0)
        replace a1 := rE a1 aa hb
        replace a0 := rE a0 aa hb
        replace HB := hB HB hb
        clear hb aa
        refine hK.out _ _ (((HB.out.cell (World.block_lt_of_cell? w _ a3)).trans a3)) (fun hHeld => ?_)
        clear hK K
        refine nm (some 17) ?_
        refine pu ap 2 (some 18) ?_
        refine on ap 7 (some 23) fun K hK => ?_
        refine Kd.R_lit_step (Kd.int .u8) _ 5 ?hg (N := 23) ?hd (xs := ([rd l0 a2] : List Int)) (inner := [.int .u8 (rd l0 a2)]) (ok := fun _ => True) (okp := fun _ => True) ?hr ?hp (fun _ hk => hk) trivial (Below.refl _ _) (Nat.le_refl _) (by simp) ?_; (case hd => rfl); (case hg => rfl); (case hr => first | (go_simp; done) | (go_simp; rfl)); (case hp => exact (Reps.one (show Kd.M (Kd.int .u8) _ _ _ (rd l0 a2) [.int .u8 (rd l0 a2)] from rfl) (Reps.none _ _)))
        intro ag w11 ai hb aU ah
        clear aU ah
        (first | rw [← an.out] at ai | (simp only [Int.reduceToNat] at ai; rw [← an.out] at ai))
        have a4 := rL HB (rn (rn (rn ai a1) a0) a7)
        replace a1 := rE a1 ai hb
        replace a0 := rE a0 ai hb
        replace a7 := rE a7 ai hb
        replace HB := hB HB hb
        clear hb ai
        refine hK.out _ _ (((HB.out.cell (World.block_lt_of_cell? w _ a3)).trans a3)) (fun hHeld => ?_)
        clear hK K
        refine nm (some 23) ?_
        exact norm_ (by simp only [putAll, Act.put, List.setIfInBounds_toArray, List.set_cons_zero, List.set_cons_succ]) (hCont (af, ag) _ ⟨hHeld, (by (with_reducible repeat (first | apply Kd.R_alloc | apply Kd.R_drewN | apply Kd.R_drew)); exact Kd.R_mono a7.out (fun _ hk => ⟨hk.2, ⟨hk.1.1.2, hk.1.2⟩⟩)), (by (with_reducible repeat (first | apply Kd.R_alloc | apply Kd.R_drewN | apply Kd.R_drew)); exact Kd.R_mono a4.out (fun _ hk => ⟨hk.2, ⟨hk.1.1.2, hk.1.2⟩⟩)), (by (with_reducible repeat (first | apply Kd.R_alloc | apply Kd.R_drewN | apply Kd.R_drew)); exact Kd.R_mono a1.out (fun _ hk => ⟨hk.1.2, ⟨hk.2, hk.1.1⟩⟩)), (by (with_reducible repeat (first | apply Kd.R_alloc | apply Kd.R_drewN | apply Kd.R_drew)); exact Kd.R_mono a0.out (fun _ hk => ⟨hk.1.2, ⟨hk.2, hk.1.1⟩⟩)), bw⟩)
       ·skip
        refine Kd.R_lit_step (Kd.int .u8) _ 5 ?hg (N := 23) ?hd (xs := ([rd l0 a2] : List Int)) (inner := [.int .u8 (rd l0 a2)]) (ok := fun _ => True) (okp := fun _ => True) ?hr ?hp (fun _ hk => hk) trivial (Below.refl _ _) (Nat.le_refl _) (by simp) ?_; (case hd => rfl); (case hg => rfl); (case hr => first | (go_simp; done) | (go_simp; rfl)); (case hp => exact (Reps.one (show Kd.M (Kd.int .u8) _ _ _ (rd l0 a2) [.int .u8 (rd l0 a2)] from rfl) (Reps.none _ _)))
        intro ag w10 am hb aU ah
        clear aU ah
        (first | rw [← an.out] at am | (simp only [Int.reduceToNat] at am; rw [← an.out] at am))
        have a4 := rL HB (rn (rn am a1) a0)
        replace a1 := rE a1 am hb
        replace a0 := rE a0 am hb
        replace HB := hB HB hb
        clear hb am
        refine hK.out _ _ (((HB.out.cell (World.block_lt_of_cell? w _ a3)).trans a3)) (fun hHeld => ?_)
        clear hK K
        refine nm (some 23) ?_
        refine on ap 1 (some 17) fun K hK => ?_
        refine go_ Try.func86 #[.bool false, .slice aq a5.length ao] ?_
        with_reducible refine (lapidaryref02_made.calls false _ _ a5 aE ad _ ?side1 ?side2 A4.out).mono ?_
        (case side1 => exact cr a0)
        (case side2 => exact rl a0)
        rintro e w12 ⟨af, rfl, aa, hb⟩
        refine ⟨_, rfl, ?_⟩
        have a7 := rL HB (rn (rn (rn aa a1) a0) a4)
        replace a1 := rE a1 aa hb
        replace a0 := rE a0 aa hb
        replace a4 := rE a4 aa hb
        replace HB := hB HB hb
        clear hb aa
        refine hK.out _ _ (((HB.out.cell (World.block_lt_of_cell? w _ a3)).trans a3)) (fun hHeld => ?_)
        clear hK K
        refine nm (some 17) ?_
        refine pu ap 2 (some 18) ?_
        exact norm_ (by simp only [putAll, Act.put, List.setIfInBounds_toArray, List.set_cons_zero, List.set_cons_succ]) (hCont (af, ag) _ ⟨hHeld, (by (with_reducible repeat (first | apply Kd.R_alloc | apply Kd.R_drewN | apply Kd.R_drew)); exact Kd.R_mono a7.out (fun _ hk => ⟨hk.2, ⟨hk.1.1.2, hk.1.2⟩⟩)), (by (with_reducible repeat (first | apply Kd.R_alloc | apply Kd.R_drewN | apply Kd.R_drew)); exact Kd.R_mono a4.out (fun _ hk => ⟨hk.2, ⟨hk.1.1.2, hk.1.2⟩⟩)), (by (with_reducible repeat (first | apply Kd.R_alloc | apply Kd.R_drewN | apply Kd.R_drew)); exact Kd.R_mono a1.out (fun _ hk => ⟨hk.2, ⟨hk.1.2, hk.1.1⟩⟩)), (by (with_reducible repeat (first | apply Kd.R_alloc | apply Kd.R_drewN | apply Kd.R_drew)); exact Kd.R_mono a0.out (fun _ hk => ⟨hk.2, ⟨hk.1.2, hk.1.1⟩⟩)), bw⟩)
      rintro ⟨af, ag⟩ aK ⟨hS_, bz, bL, bP, bH, bx⟩
      have bF : Aside0 (Kd.R (Kd.int .u8) 5 aK w.heap.size (fun k_ => some k_ ≠ (ag : Value).ownBlock ∧ some k_ ≠ (u6 : Value).ownBlock ∧ some k_ ≠ (.slice aq a5.length ao : Value).ownBlock) af ad) := ⟨bz⟩
      have bN : Aside0 (Kd.R (Kd.int .u8) 5 aK w.heap.size (fun k_ => some k_ ≠ (af : Value).ownBlock ∧ some k_ ≠ (u6 : Value).ownBlock ∧ some k_ ≠ (.slice aq a5.length ao : Value).ownBlock) ag y285) := ⟨bL⟩
      have bK : Aside0 (Kd.R (Kd.int .u8) 5 aK w.heap.size (fun k_ => some k_ ≠ (af : Value).ownBlock ∧ some k_ ≠ (ag : Value).ownBlock ∧ some k_ ≠ (.slice aq a5.length ao : Value).ownBlock) u6 a8) := ⟨bP⟩
      have bO : Aside0 (Kd.R (Kd.int .u8) 5 aK w.heap.size (fun k_ => some k_ ≠ (af : Value).ownBlock ∧ some k_ ≠ (ag : Value).ownBlock ∧ some k_ ≠ (u6 : Value).ownBlock) (.slice aq a5.length ao) a5) := ⟨bH⟩
      have bA : Aside0 (Below w.heap.size w aK) := ⟨bx⟩
      clear a1
      clear a0
      clear HB
      clear bz bL bP bH bx
      have a7 := bF
      have a4 := bN
      have a1 := bK
      have a0 := bO
      have HB := bA
      clear bF bN bK bO bA
      have hHeld : aK.cell? (ar.add (a2).toNat) = some (.int .u8 (rd l0 a2)) := hS_
      obtain ⟨aD, aC, bb⟩ := sl a4; cases bb
      refine norm_ (a' := ?_) ?_ ?_
      rotate_left
      ·simp only [putAll, Act.put, List.setIfInBounds_toArray, List.set_cons_zero, List.set_cons_succ]
       rfl
      refine on ap 8 (some 24) fun K hK => ?_
      refine Kd.R_append_rows_step (Kd.int .u8) (w0 := w) w.heap.size (by rfl) (.tmp 18) (.tmp 23) 22 5 (.int .u8 0) 1 rfl Try.underlying22 info5 rfl (by decide) (by omega) af ad y285 _ _ _ (fun k_ => some k_ ≠ (u6 : Value).ownBlock ∧ some k_ ≠ (.slice aq a5.length ao : Value).ownBlock ∧ some k_ ≠ (.slice aD y285.length aC : Value).ownBlock) (fun _ => False) rfl rfl ?aO ?aR (fun _ _ h => h) (fun _ h => h.elim) ?aF ?aB ?aS ?aL ?_
      (case aR => exact cr a4)
      (case aB => exact bw)
      (case aF => exact (fun k_ hk => ⟨Kd.fresh' (Kd.R_lt (rb a1)) k_ hk, Kd.fresh' (Kd.R_lt (rb a0)) k_ hk, Kd.fresh' (Kd.R_lt (rb a4)) k_ hk⟩))
      (case aO => exact (by (with_reducible repeat (first | apply Kd.R_alloc | apply Kd.R_drewN | apply Kd.R_drew)); exact Kd.R_mono a7.out (fun _ hk => ⟨hk.2.1, ⟨hk.2.2, hk.1⟩⟩)))
      (case aS => exact (sz HB))
      (case aL => have := bf.out; omega)
      intro v289 w14 ho hb hg hat
      rw [← aV.out] at ho
      have ac := Aside0.mk ho
      replace a1 := Aside0.mk (Kd.R_after (ok := (fun k_ => some k_ ≠ (.slice aq a5.length ao : Value).ownBlock ∧ some k_ ≠ (.slice aD y285.length aC : Value).ownBlock)) (by (with_reducible repeat (first | apply Kd.R_alloc | apply Kd.R_drewN | apply Kd.R_drew)); exact Kd.R_mono a1.out (fun _ hk => ⟨⟨hk.2.2, hk.2.1⟩, hk.1⟩)) hg hat)
      replace a0 := Aside0.mk (Kd.R_after (ok := (fun k_ => some k_ ≠ (u6 : Value).ownBlock ∧ some k_ ≠ (.slice aD y285.length aC : Value).ownBlock)) (by (with_reducible repeat (first | apply Kd.R_alloc | apply Kd.R_drewN | apply Kd.R_drew)); exact Kd.R_mono a0.out (fun _ hk => ⟨⟨hk.2.2, hk.2.1⟩, hk.1⟩)) hg hat)
      replace a4 := Aside0.mk (Kd.R_after (ok := (fun k_ => some k_ ≠ (u6 : Value).ownBlock ∧ some k_ ≠ (.slice aq a5.length ao : Value).ownBlock)) (by (with_reducible repeat (first | apply Kd.R_alloc | apply Kd.R_drewN | apply Kd.R_drew)); exact Kd.R_mono a4.out (fun _ hk => ⟨⟨hk.2.1, hk.2.2⟩, hk.1⟩)) hg hat)
      replace HB := Aside0.mk hb
      clear a7
      clear ho hb hg hat
      refine hK.out _ _ (((HB.out.cell (World.block_lt_of_cell? w _ a3)).trans a3)) (fun hHeld => ?_)
      clear hK K
      refine nm (some 24) ?_
      refine pu ap 9 (some 7) ?_
      refine dn ap ?_
      obtain ⟨bo, br, b7⟩ := sl ac; cases b7
      try go_wp2_with (first | ((with_reducible refine ga 86 rfl ?_); refine gc (some 26) Try.func86 #[.bool false, .slice bo y288.length br] (lapidaryref02_made.calls false _ _ y288 bn b2 _ (cr ac) (rl ac) A7.out) ?_; rintro e w17 ⟨v293, rfl, aa, hb⟩; refine ⟨_, rfl, ?_⟩; have ay := rL HB (rn (rn (rn (rn aa a1) a0) a4) ac); replace a1 := rE a1 aa hb; replace a0 := rE a0 aa hb; replace a4 := rE a4 aa hb; replace ac := rE ac aa hb; replace HB := hB HB hb; clear hb aa; obtain ⟨bJ, bB, aW⟩ := sl ay; cases aW))
      go_loopg [7, 9] k1 (fun kq v7 v9 w' => ∃ (a9 : List Int) (ae : Int), v9 = .int .u8 ae ∧ Aside0 (lapidaryref02_divide.l1 kq l0 l1 a8 a9 a2 ae = some (r1, r2)) ∧ Aside0 (kq ≤ k1) ∧ Aside0 (Kd.R (Kd.int .u8) 5 w' w.heap.size (fun k_ => some k_ ≠ (v7 : Value).ownBlock) u6 a8) ∧ Aside0 (Kd.R (Kd.int .u8) 5 w' w.heap.size (fun k_ => some k_ ≠ (u6 : Value).ownBlock) v7 a9) ∧ Aside0 (Below w.heap.size w w'))
      case atStart => exact ⟨(b2), (0), sd, H', ⟨Nat.le_refl _⟩, ⟨by (with_reducible repeat (first | apply Kd.R_alloc | apply Kd.R_drewN | apply Kd.R_drew)); exact Kd.R_mono a1.out (fun _ hk => hk.2)⟩, ⟨by (with_reducible repeat (first | apply Kd.R_alloc | apply Kd.R_drewN | apply Kd.R_drew)); exact Kd.R_mono ay.out (fun _ hk => hk.1.1.1.2)⟩, ⟨bw⟩⟩
      case round =>
       clear H'
       try clear c1
       try clear c3
       try clear b1
       try clear c5
       try clear be
       try clear c6
       try clear a6
       try clear aw
       try clear ax
       obtain ⟨a9, ae, rfl, HA, b4, a1, a0, HB⟩ := hrel
       cases gk with
       | zero => exact absurd HA.out (by simp [lapidaryref02_divide.l1])
       | succ k2 =>
        have H := HA.out
        clear HA
        simp only [lapidaryref02_divide.l1] at H
        obtain ⟨av, bv, H⟩ := bs H
        by_cases aJ : av ≥ 0
        ·rw [if_pos aJ] at H
         have aZ : decide (0 ≤ av) = true := decide_eq_true aJ
         clear aJ
         obtain ⟨aI, A20, H⟩ := bs H
         obtain ⟨⟨b9, b0⟩, A21, H⟩ := bs H
         have H' := Aside0.mk H
         clear H
         obtain ⟨aY, b3, bd⟩ := sl a0; cases bd
         go_wp2_with (first | ((with_reducible refine ga 83 rfl ?_); refine gc (some 30) Try.func83 #[.slice aY a9.length b3, .slice A1 l1.length c1] (lapidaryref02_cmp.calls k2 _ _ a9 _ _ l1 av _ (cr a0) (rl a0) (cb bu HB) ba.out bv.out) ?_; rintro e w' ⟨rfl, ⟨nd, rfl⟩⟩; refine ⟨_, rfl, ?_⟩) | ((with_reducible refine ga 84 rfl ?_); refine gc (some 34) Try.func84 #[.slice aY a9.length b3, .slice A1 l1.length c1] (lapidaryref02_less.calls k2 _ _ a9 _ _ l1 aI _ (cr a0) (rl a0) (cb bu HB) ba.out A20.out) ?_; rintro e w23 ⟨v297, rfl, aa, hb⟩; refine ⟨_, rfl, ?_⟩; have ab := rL HB (rn (rn aa a1) a0); replace a1 := rE a1 aa hb; replace a0 := rE a0 aa hb; replace HB := hB HB hb; clear hb aa; obtain ⟨bl, bg, bj⟩ := sl ab; cases bj) | ((with_reducible refine ga 86 rfl ?_); refine gc (some 35) Try.func86 #[.bool false, .slice bl aI.length bg] (lapidaryref02_made.calls false _ _ aI b9 b0 _ (cr ab) (rl ab) A21.out) ?_; rintro e w25 ⟨v301, rfl, aa, hb⟩; refine ⟨_, rfl, ?_⟩; have az := rL HB (rn (rn (rn aa a1) a0) ab); replace a1 := rE a1 aa hb; replace a0 := rE a0 aa hb; replace ab := rE ab aa hb; replace HB := hB HB hb; clear hb aa; obtain ⟨bD, bQ, aP⟩ := sl az; cases aP))
         go_roundg k2
         case measure => have := b5.out; have := b4.out; omega
         case rel => exact ⟨(b0), ((ae + 1) % 256), sd, H', ⟨by have := b5.out; have := b4.out; omega⟩, ⟨by (with_reducible repeat (first | apply Kd.R_alloc | apply Kd.R_drewN | apply Kd.R_drew)); exact Kd.R_mono a1.out (fun _ hk => hk.2)⟩, ⟨by (with_reducible repeat (first | apply Kd.R_alloc | apply Kd.R_drewN | apply Kd.R_drew)); exact Kd.R_mono az.out (fun _ hk => hk.1.1.2)⟩, ⟨bw⟩⟩
        ·rw [if_neg aJ] at H
         have aZ : decide (0 ≤ av) = false := decide_eq_false aJ
         clear aJ
         obtain ⟨y303, hy303⟩ : ∃ y_ : List Int, y_ = (([ae] : List Int)) := ⟨_, rfl⟩
         replace H : (if a8.length + y303.length < 140737488355328 then (lapidaryref02_divide.l0 k2 l0 l1 (a8 ++ y303) a9 (wrap64 (a2 + 1))) else (none)) = some (r1, r2) := by first | (rw [hy303]; with_reducible exact H) | (have al := (Option.bind_some _ _).symm.trans H; rw [hy303]; with_reducible exact al) | (have al := (Option.bind_some _ _).symm.trans H; with_reducible exact al) | with_reducible exact H | (rw [hy303]; exact H) | exact H
         have aA := Aside0.mk hy303
         clear hy303
         by_cases b6 : a8.length + y303.length < 140737488355328
         ·rw [if_pos b6] at H
          have aQ := Aside0.mk b6
          clear b6
          obtain ⟨y306, hy306⟩ : ∃ y_ : List Int, y_ = (a8 ++ y303) := ⟨_, rfl⟩
          replace H : (lapidaryref02_divide.l0 k2 l0 l1 y306 a9 (wrap64 (a2 + 1))) = some (r1, r2) := by first | (rw [hy306]; with_reducible exact H) | (have al := (Option.bind_some _ _).symm.trans H; rw [hy306]; with_reducible exact al) | (have al := (Option.bind_some _ _).symm.trans H; with_reducible exact al) | with_reducible exact H | (rw [hy306]; exact H) | exact H
          have aT := Aside0.mk hy306
          clear hy306
          have H' := Aside0.mk H
          clear H
          obtain ⟨aH, aG, bm⟩ := sl a0; cases bm
          go_wp2_with (first | ((with_reducible refine ga 83 rfl ?_); refine gc (some 30) Try.func83 #[.slice aH a9.length aG, .slice A1 l1.length c1] (lapidaryref02_cmp.calls k2 _ _ a9 _ _ l1 av _ (cr a0) (rl a0) (cb bu HB) ba.out bv.out) ?_; rintro e w' ⟨rfl, ⟨nd, rfl⟩⟩; refine ⟨_, rfl, ?_⟩) | ((with_reducible refine gd 41 rfl ?_); refine Kd.R_lit (Kd.int .u8) _ 5 ?hg (N := 41) ?hd (xs := ([ae] : List Int)) (inner := [.int .u8 ae]) (ok := fun _ => True) (okp := fun _ => True) ?hr ?hp (fun _ hk => hk) trivial (Below.refl _ _) (Nat.le_refl _) (by simp) ?_; (case hd => rfl); (case hg => rfl); (case hr => first | (go_simp; done) | (go_simp; rfl)); (case hp => exact (Reps.one (show Kd.M (Kd.int .u8) _ _ _ ae [.int .u8 ae] from rfl) (Reps.none _ _))); intro v304 w28 ak hb aU ah; clear aU ah; (first | rw [← aA.out] at ak | (simp only [Int.reduceToNat] at ak; rw [← aA.out] at ak)); have aj := rL HB (rn (rn ak a1) a0); replace a1 := rE a1 ak hb; replace a0 := rE a0 ak hb; replace HB := hB HB hb; clear hb ak; obtain ⟨aM, aX, bh⟩ := sl aj; cases bh) | ((with_reducible refine gate_builtin (b := .append) (xs := #[.tmp 39, .tmp 41]) rfl ?_); at_builtin; refine Kd.R_append_rows (Kd.int .u8) (w0 := w) w.heap.size rfl (.tmp 39) (.tmp 41) 22 5 (.int .u8 0) 1 rfl Try.underlying22 info5 rfl (by decide) (by omega) u6 a8 y303 _ _ _ (fun k_ => some k_ ≠ (.slice aH a9.length aG : Value).ownBlock ∧ some k_ ≠ (.slice aM y303.length aX : Value).ownBlock) (fun _ => False) rfl rfl ?aO ?aR (fun _ _ h => h) (fun _ h => h.elim) ?aF ?aB ?aS ?aL ?_; (case aR => exact cr aj); (case aB => exact bw); (case aF => exact (fun k_ hk => ⟨Kd.fresh' (Kd.R_lt (rb a0)) k_ hk, Kd.fresh' (Kd.R_lt (rb aj)) k_ hk⟩)); (case aO => exact (rb a1)); (case aS => exact (sz HB)); (case aL => have := aQ.out; omega); intro v307 w30 ho hb hg hat; rw [← aT.out] at ho; have aN := Aside0.mk ho; replace a0 := Aside0.mk (Kd.R_after (ok := (fun k_ => some k_ ≠ (.slice aM y303.length aX : Value).ownBlock)) (by (with_reducible repeat (first | apply Kd.R_alloc | apply Kd.R_drewN | apply Kd.R_drew)); exact Kd.R_mono a0.out (fun _ hk => ⟨hk.2, hk.1⟩)) hg hat); replace aj := Aside0.mk (Kd.R_after (ok := (fun k_ => some k_ ≠ (.slice aH a9.length aG : Value).ownBlock)) (by (with_reducible repeat (first | apply Kd.R_alloc | apply Kd.R_drewN | apply Kd.R_drew)); exact Kd.R_mono aj.out (fun _ hk => ⟨hk.2, hk.1.2⟩)) hg hat); replace HB := Aside0.mk hb; clear a1; clear ho hb hg hat))
          go_roundg k2
          case measure => have := b5.out; have := b4.out; omega
          case rel => exact ⟨(y306), (a9), (wrap64 (a2 + 1)), sd, H', ⟨by have := b5.out; have := b4.out; omega⟩, ⟨by (with_reducible repeat (first | apply Kd.R_alloc | apply Kd.R_drewN | apply Kd.R_drew)); exact Kd.R_mono aN.out (fun _ hk => hk.1)⟩, ⟨by (with_reducible repeat (first | apply Kd.R_alloc | apply Kd.R_drewN | apply Kd.R_drew)); exact Kd.R_mono a0.out (fun _ hk => hk.2)⟩, ⟨bw⟩⟩
         ·rw [if_neg b6] at H
          exact absurd H (by simp)
     ·rw [if_neg c6] at H
      exact absurd H (by simp)
    ·rw [if_neg c5] at H
     exact absurd H (by simp)
   ·rw [if_neg c3] at H
    have b1 : decide (a2 < (l0.length : Int)) = false := decide_eq_false c3
    clear c3
    simp only [Option.some.injEq, Prod.mk.injEq] at H
    obtain ⟨rfl, rfl⟩ := H
    go_wp2
    go_ret2
    exact ⟨_, _, er, rb a1, rb a0, bw⟩
/-! ### lapidaryref02_both: function 72 -/
mutual
def lapidaryref02_both.j0 : Nat → Bool → Bool → List Int → Bool → List Int → Option (Bool × List Int × Bool × List Int × Int)
 | 0, _, _, _, _, _ => none
 | k + 1, x16, a3, a2, a1, a0 => if x16 = true then (some (false, ([] : List Int), false, ([] : List Int), 1)) else (if (a0.length : Int) = 0 then (some (false, ([] : List Int), false, ([] : List Int), 23)) else ((lapidaryref02_divide.f k a2 a0).bind fun a4 => (if (a3 != a1) = true then (lapidaryref02_both.j1 k a4.1 a4.2 (decide ((a4.2.length : Int) > 0)) a3 a2 a1 a0) else (lapidaryref02_both.j1 k a4.1 a4.2 false a3 a2 a1 a0))))
def lapidaryref02_both.j1 : Nat → List Int → List Int → Bool → Bool → List Int → Bool → List Int → Option (Bool × List Int × Bool × List Int × Int)
 | 0, _, _, _, _, _, _, _ => none
 | k + 1, x7, x8, x42, a1, a7, a0, a2 => if x42 = true then ((lapidaryref02_sum.f k x7 (([1] : List Int))).bind fun a8 => ((lapidaryref02_less.f k a2 x8).bind fun a9 => ((lapidaryref02_made.f (a1 != a0) a8).bind fun a3 => ((lapidaryref02_made.f a0 a9).bind fun a4 => (some (a3.1, a3.2, a4.1, a4.2, 0)))))) else ((lapidaryref02_made.f (a1 != a0) x7).bind fun a5 => ((lapidaryref02_made.f a0 x8).bind fun a6 => (some (a5.1, a5.2, a6.1, a6.2, 0))))
end
def lapidaryref02_both.f (k : Nat) (a0 : Bool) (a1 : List Int) (a3 : Bool) (a2 : List Int) : Option (Bool × List Int × Bool × List Int × Int) := (lapidaryref02_Right.f a0 a1).bind fun a5 => (if a5 = true then ((lapidaryref02_Right.f a3 a2).bind fun a4 => (lapidaryref02_both.j0 k (!a4) a0 a1 a3 a2)) else (lapidaryref02_both.j0 k true a0 a1 a3 a2))
theorem lapidaryref02_both.mono_l : ∀ k, (∀ y0 y1 y2 y3 y4, LeO (lapidaryref02_both.j0 k y0 y1 y2 y3 y4) (lapidaryref02_both.j0 (k + 1) y0 y1 y2 y3 y4)) ∧ (∀ y0 y1 y2 y3 y4 y5 y6, LeO (lapidaryref02_both.j1 k y0 y1 y2 y3 y4 y5 y6) (lapidaryref02_both.j1 (k + 1) y0 y1 y2 y3 y4 y5 y6))
 | 0 => ⟨fun _ _ _ _ _ r h => by simp [lapidaryref02_both.j0] at h, fun _ _ _ _ _ _ _ r h => by simp [lapidaryref02_both.j1] at h⟩
 | k + 1 => by
  obtain ⟨a0, a1⟩ := lapidaryref02_both.mono_l k
  refine ⟨?_, ?_⟩
  ·intro y0 y1 y2 y3 y4
   unfold lapidaryref02_both.j0
   repeat' first | with_reducible exact a0 _ _ _ _ _ | with_reducible exact a1 _ _ _ _ _ _ _ | with_reducible exact lapidaryref02_divide.mono _ _ _ | with_reducible exact lapidaryref02_less.mono _ _ _ | with_reducible exact lapidaryref02_sum.mono _ _ _ | with_reducible exact LeO.refl _ | with_reducible exact LeO.none _ | with_reducible refine LeO.ite ?_ ?_ | with_reducible refine LeO.bind ?_ (fun _ => ?_) | exact a0 _ _ _ _ _ | exact a1 _ _ _ _ _ _ _ | exact lapidaryref02_divide.mono _ _ _ | exact lapidaryref02_less.mono _ _ _ | exact lapidaryref02_sum.mono _ _ _ | exact LeO.none _ | refine LeO.ite ?_ ?_ | refine LeO.bind ?_ (fun _ => ?_)
  ·intro y0 y1 y2 y3 y4 y5 y6
   unfold lapidaryref02_both.j1
   repeat' first | with_reducible exact a0 _ _ _ _ _ | with_reducible exact a1 _ _ _ _ _ _ _ | with_reducible exact lapidaryref02_divide.mono _ _ _ | with_reducible exact lapidaryref02_less.mono _ _ _ | with_reducible exact lapidaryref02_sum.mono _ _ _ | with_reducible exact LeO.refl _ | with_reducible exact LeO.none _ | with_reducible refine LeO.ite ?_ ?_ | with_reducible refine LeO.bind ?_ (fun _ => ?_) | exact a0 _ _ _ _ _ | exact a1 _ _ _ _ _ _ _ | exact lapidaryref02_divide.mono _ _ _ | exact lapidaryref02_less.mono _ _ _ | exact lapidaryref02_sum.mono _ _ _ | exact LeO.none _ | refine LeO.ite ?_ ?_ | refine LeO.bind ?_ (fun _ => ?_)
theorem lapidaryref02_both.mono : ∀ a0 a1 a2 a3 k, LeO (lapidaryref02_both.f k a0 a1 a2 a3) (lapidaryref02_both.f (k + 1) a0 a1 a2 a3) := by
 intro a0 a1 a2 a3 k
 obtain ⟨a4, a5⟩ := lapidaryref02_both.mono_l k
 unfold lapidaryref02_both.f
 repeat' first | with_reducible exact a4 _ _ _ _ _ | with_reducible exact a5 _ _ _ _ _ _ _ | with_reducible exact lapidaryref02_divide.mono _ _ _ | with_reducible exact lapidaryref02_less.mono _ _ _ | with_reducible exact lapidaryref02_sum.mono _ _ _ | with_reducible exact LeO.refl _ | with_reducible exact LeO.none _ | with_reducible refine LeO.ite ?_ ?_ | with_reducible refine LeO.bind ?_ (fun _ => ?_) | exact a4 _ _ _ _ _ | exact a5 _ _ _ _ _ _ _ | exact lapidaryref02_divide.mono _ _ _ | exact lapidaryref02_less.mono _ _ _ | exact lapidaryref02_sum.mono _ _ _ | exact LeO.none _ | refine LeO.ite ?_ ?_ | refine LeO.bind ?_ (fun _ => ?_)
def lapidaryref02_both.T9 : Bool × List (List Nat × List Nat) := (true, [([], []), ([0], [0]), ([], []), ([2], [2]), ([1, 3], [1, 3]), ([], []), ([4, 5], [4, 5]), ([], []), ([7], [7]), ([], []), ([8, 9, 6], [8, 9]), ([6, 10, 0, 1, 2, 3, 4, 5, 6], [6]), ([10, 11, 0, 1, 2, 3, 4, 5, 6, 7, 8, 9, 10, 11], [10]), ([12, 0, 1, 2, 3, 4, 5, 6, 7, 8, 9, 10, 11, 12], [])])
def lapidaryref02_both.B9 : List Nat := [0, 1, 0, 4, 15, 0, 63, 0, 128, 0, 1023, 2047, 4095, 8191]
theorem lapidaryref02_both.tab9 : rtab .any (opsOf Try.f72 9) = lapidaryref02_both.T9 := by kernel_rfl
theorem lapidaryref02_both.bits9 : waitsOk lapidaryref02_both.T9.2 lapidaryref02_both.B9 = true := by kernel_rfl
theorem lapidaryref02_both.calls (k : Nat) (ad : Bool) (aw : Option Addr) (av : Nat) (ak : List Int) (ab : Bool) (aC : Option Addr) (aB : Nat) (af : List Int) (r1 : Bool) (r2 : List Int) (r3 : Bool) (r4 : List Int) (r5 : Int) (w : World) (b4 : Kd.C (Kd.int .u8) w aw ak.length ak) (b1 : ak.length ≤ av) (aY : Kd.C (Kd.int .u8) w aC af.length af) (b5 : af.length ≤ aB) (h : lapidaryref02_both.f k ad ak ab af = some (r1, r2, r3, r4, r5)) :
  Calls Try.prog 72 #[.agg #[.bool ad, .slice aw ak.length av], .agg #[.bool ab, .slice aC af.length aB]] w fun e w' => ∃ cQ d6 : Value, e = .returned (.tuple #[.agg #[.bool r1, cQ], .agg #[.bool r3, d6], .int .i64 r5]) ∧ Kd.R (Kd.int .u8) 5 w' w.heap.size (fun k_ => some k_ ≠ (d6 : Value).ownBlock) cQ r2 ∧ Kd.R (Kd.int .u8) 5 w' w.heap.size (fun k_ => some k_ ≠ (cQ : Value).ownBlock) d6 r4 ∧ Below w.heap.size w w' := by
 have hu24 := Try.underlying24
 have aQ := Aside0.mk b4
 have aL := Aside0.mk b1
 clear b4 b1
 have aK := Aside0.mk aY
 have aM := Aside0.mk b5
 clear aY b5
 have HB := Aside0.mk (Below.refl w.heap.size w)
 have H : ((lapidaryref02_Right.f ad ak).bind fun b8 => (if b8 = true then ((lapidaryref02_Right.f ab af).bind fun aR => (lapidaryref02_both.j0 k (!aR) ad ak ab af)) else (lapidaryref02_both.j0 k true ad ak ab af))) = some (r1, r2, r3, r4, r5) := h
 clear h
 have d9 := Aside0.mk H
 clear H
 go_enter Try.func72, Try.ntmps72
 go_upto_region 1 with (first | ((with_reducible refine gd 2 rfl ?_); refine bX 2 rfl HB #[.bool ad, .slice aw ak.length av] 24 ?_; intro ax w4 a0 dC hg hb; replace HB := hB HB hb; clear hb hg) | ((with_reducible refine gd 3 rfl ?_); refine bX 3 rfl HB #[.bool ab, .slice aC af.length aB] 24 ?_; intro ay w5 a1 dk hg hb; obtain ⟨ao, au⟩ := nB a0 hg; replace a0 := kB a0 hb; replace HB := hB HB hb; clear hb hg) | ((with_reducible refine gd 4 rfl ?_); refine bX 4 rfl HB #[.bool false, .slice none 0 0] 24 ?_; intro aq w6 a2 dq hg hb; obtain ⟨a6, ag⟩ := nB a0 hg; obtain ⟨a5, al⟩ := nB a1 hg; replace a0 := kB a0 hb; replace a1 := kB a1 hb; replace HB := hB HB hb; clear hb hg) | ((with_reducible refine gd 5 rfl ?_); refine bX 5 rfl HB #[.bool false, .slice none 0 0] 24 ?_; intro ap w7 a3 dK hg hb; obtain ⟨a7, ah⟩ := nB a0 hg; obtain ⟨a4, am⟩ := nB a1 hg; obtain ⟨a8, ac⟩ := nB a2 hg; replace a0 := kB a0 hb; replace a1 := kB a1 hb; replace a2 := kB a2 hb; replace HB := hB HB hb; clear hb hg))
 (try simp only [Act.put, List.setIfInBounds_toArray, List.set_cons_zero, List.set_cons_succ])
 go_cut [16] (fun v16 wc => ∃ (kq : Nat) (aI : Bool), v16 = .bool aI ∧ Aside0 (lapidaryref02_both.j0 kq aI ad ak ab af = some (r1, r2, r3, r4, r5)) ∧ Aside0 (kq ≤ k) ∧ Aside0 (wc.heap[ax]? = some (.cells #[.bool ad, (.slice aw ak.length av)] 24 (0, 0))) ∧ Aside0 (wc.heap[ay]? = some (.cells #[.bool ab, (.slice aC af.length aB)] 24 (0, 0))) ∧ Aside0 (wc.heap[aq]? = some (.cells #[.bool false, (.slice none 0 0)] 24 (0, 0))) ∧ Aside0 (wc.heap[ap]? = some (.cells #[.bool false, (.slice none 0 0)] 24 (0, 0))) ∧ Aside0 (Below w.heap.size w wc))
 case first =>
  have H := d9.out
  clear d9
  obtain ⟨b8, A8, H⟩ := bs H
  by_cases c9 : b8 = true
  ·subst c9
   replace H := ip H
   obtain ⟨aR, A10, H⟩ := bs H
   have H' := Aside0.mk H
   clear H
   have hn11 := nn ao
   have hn12 := nn a6
   have hn13 := nn a7
   have dr := zf2 a0
   go_wp2_with (first | ((with_reducible refine ga 40 rfl ?_); refine gc (some 10) Try.func40 #[.agg #[.bool ad, .slice aw ak.length av]] (lapidaryref02_Right.calls ad _ _ ak true _ (cb aQ HB) aL.out A8.out) ?_; rintro e w15 ⟨rfl, hb⟩; refine ⟨_, rfl, ?_⟩; replace a0 := kB a0 hb; replace a1 := kB a1 hb; replace a2 := kB a2 hb; replace a3 := kB a3 hb; replace HB := hB HB hb; clear hb; have hn16 := nn a5; have hn17 := nn a4; have dI := zf2 a1) | (go_at_call 40; (with_reducible refine (lapidaryref02_Right.calls ab _ _ af aR _ ?side1 ?side2 A10.out).mono ?_); (case side1 => exact cb aK HB); (case side2 => exact aM.out); rintro e w19 ⟨rfl, hb⟩; replace a0 := kB a0 hb; replace a1 := kB a1 hb; replace a2 := kB a2 hb; replace a3 := kB a3 hb; replace HB := hB HB hb; clear hb))
   go_meet
   case rel => exact ⟨_, (!aR), sd, H', ⟨le_⟩, ⟨bk⟩, ⟨bk⟩, ⟨bk⟩, ⟨bk⟩, ⟨bw⟩⟩
  ·replace c9 := Bool.eq_false_iff.mpr c9
   subst c9
   replace H := iq H
   have H' := Aside0.mk H
   clear H
   have hn20 := nn ao
   have hn21 := nn a6
   have hn22 := nn a7
   have dH := zf2 a0
   go_wp2_with (first | ((with_reducible refine ga 40 rfl ?_); refine gc (some 10) Try.func40 #[.agg #[.bool ad, .slice aw ak.length av]] (lapidaryref02_Right.calls ad _ _ ak false _ (cb aQ HB) aL.out A8.out) ?_; rintro e w24 ⟨rfl, hb⟩; refine ⟨_, rfl, ?_⟩; replace a0 := kB a0 hb; replace a1 := kB a1 hb; replace a2 := kB a2 hb; replace a3 := kB a3 hb; replace HB := hB HB hb; clear hb))
   go_meet
   case rel => exact ⟨_, (true), sd, H', ⟨le_⟩, ⟨bk⟩, ⟨bk⟩, ⟨bk⟩, ⟨bk⟩, ⟨bw⟩⟩
 case rest =>
  clear d9
  obtain ⟨kq, aI, rfl, HA, dm, a0, a1, a2, a3, HB⟩ := hcut
  cases kq with
  | zero => exact absurd HA.out (by simp [lapidaryref02_both.j0])
  | succ kj2 =>
   have H := HA.out
   clear HA
   simp only [lapidaryref02_both.j0] at H
   by_cases bG : aI = true
   ·subst bG
    replace H := ip H
    simp only [Option.some.injEq, Prod.mk.injEq] at H
    obtain ⟨rfl, rfl, rfl, rfl, rfl⟩ := H
    have hn26 := nn ag
    have hn27 := nn al
    have hn28 := nn a8
    have dt := zf2 a2
    have hn30 := nn ah
    have hn31 := nn am
    have dl := zf2 a3
    go_wp2
    refine bodyPost_ret (results_list (rs := [.cell 4 24, .cell 5 24, .tmp 6]) rfl (by simp) (.cell aq 24 #[.bool false, .slice none 0 0] (0, 0) _ rfl (bp a2) Try.underlying24 rfl (by kernel_rfl) (.cell ap 24 #[.bool false, .slice none 0 0] (0, 0) _ rfl (bp a3) Try.underlying24 rfl (by kernel_rfl) (.tmp .nil)))) rfl ?_
    exact ⟨_, _, er, nl, nl, bw⟩
   ·replace bG := Bool.eq_false_iff.mpr bG
    subst bG
    replace H := iq H
    by_cases aS : (af.length : Int) = 0
    ·rw [if_pos aS] at H
     have b0 : ((af.length : Int) == 0) = true := beq_iff_eq.mpr aS
     have aU : ((af.length : Int) != 0) = false := bne_eq_false_iff_eq.mpr aS
     clear aS
     simp only [Option.some.injEq, Prod.mk.injEq] at H
     obtain ⟨rfl, rfl, rfl, rfl, rfl⟩ := H
     have hn34 := nn au
     have hn35 := nn a5
     have hn36 := nn a4
     have di := zf2 a1
     have hn38 := nn ag
     have hn39 := nn a8
     have dz := zf2 a2
     have hn41 := nn ah
     have dw := zf2 a3
     go_wp2
     refine bodyPost_ret (results_list (rs := [.cell 4 24, .cell 5 24, .tmp 6]) rfl (by simp) (.cell aq 24 #[.bool false, .slice none 0 0] (0, 0) _ rfl (bp a2) Try.underlying24 rfl (by kernel_rfl) (.cell ap 24 #[.bool false, .slice none 0 0] (0, 0) _ rfl (bp a3) Try.underlying24 rfl (by kernel_rfl) (.tmp .nil)))) rfl ?_
     exact ⟨_, _, er, nl, nl, bw⟩
    ·rw [if_neg aS] at H
     have b0 : ((af.length : Int) == 0) = false := beq_eq_false_iff_ne.mpr aS
     have aU : ((af.length : Int) != 0) = true := bne_iff_ne.mpr aS
     have bA : ¬ (af = []) := fun h_ => aS (by rw [h_]; rfl)
     obtain ⟨⟨aD, az⟩, A43, H⟩ := bs H
     have b7 := Aside0.mk H
     clear H
     have hn45 := nn au
     have hn46 := nn a5
     have hn47 := nn a4
     have bf := zf2 a1
     have hn49 := nn a6
     have hn50 := nn a7
     have cd := zf2 a0
     go_upto_region 6 with (first | ((with_reducible refine ga 112 rfl ?_); refine gc (some 30) Try.func112 #[.slice aw ak.length av, .slice aC af.length aB] (lapidaryref02_divide.calls kj2 _ _ ak _ _ af aD az _ (cb aQ HB) aL.out (cb aK HB) aM.out A43.out) ?_; rintro e w52 ⟨ba, c1, rfl, aj, dA, hb⟩; refine ⟨_, rfl, ?_⟩; have aW := rL HB aj; have aP := rL HB dA; replace a0 := kB a0 hb; replace a1 := kB a1 hb; replace a2 := kB a2 hb; replace a3 := kB a3 hb; replace HB := hB HB hb; clear hb aj dA))
     (try simp only [Act.put, List.setIfInBounds_toArray, List.set_cons_zero, List.set_cons_succ])
     go_cut [42] (fun v42 wc => ∃ (kq : Nat) (aA : Bool), v42 = .bool aA ∧ Aside0 (lapidaryref02_both.j1 kq aD az aA ad ak ab af = some (r1, r2, r3, r4, r5)) ∧ Aside0 (kq ≤ kj2) ∧ Aside0 (Kd.R (Kd.int .u8) 5 wc w.heap.size (fun k_ => some k_ ≠ (c1 : Value).ownBlock) ba aD) ∧ Aside0 (Kd.R (Kd.int .u8) 5 wc w.heap.size (fun k_ => some k_ ≠ (ba : Value).ownBlock) c1 az) ∧ Aside0 (wc.heap[ax]? = some (.cells #[.bool ad, (.slice aw ak.length av)] 24 (0, 0))) ∧ Aside0 (wc.heap[ay]? = some (.cells #[.bool ab, (.slice aC af.length aB)] 24 (0, 0))) ∧ Aside0 (wc.heap[aq]? = some (.cells #[.bool false, (.slice none 0 0)] 24 (0, 0))) ∧ Aside0 (wc.heap[ap]? = some (.cells #[.bool false, (.slice none 0 0)] 24 (0, 0))) ∧ Aside0 (Below w.heap.size w wc))
     case first =>
      have H := b7.out
      clear b7
      by_cases aN : (ad != ab) = true
      ·rw [if_pos aN] at H
       have aE : (ad != ab) = true := aN
       (try (have c0 : decide (ad = ab) = false := by simpa using aN))
       (try (have ch : (ad == ab) = false := by simpa using aN))
       (try (have dF : ¬ (ad = ab) := by simpa using aN))
       clear aN
       (first | rw [aE] | (simp only [i64_w, i32_w]; rw [aE]) | skip)
       have H' := Aside0.mk H
       clear H
       have hn54 := nn ao
       have hn55 := nn a6
       have hn56 := nn a7
       have dJ := zf2 a0
       have hn58 := nn a5
       have hn59 := nn a4
       have dD := zf2 a1
       obtain ⟨Ao61, co61, d5⟩ := sl aP; cases d5
       go_wp2
       go_meet
       case rel => exact ⟨_, (decide ((az.length : Int) > 0)), sd, H', ⟨by have := dm.out; first | omega | exact Nat.le_refl _⟩, ⟨rb aW⟩, ⟨rb aP⟩, ⟨bk⟩, ⟨bk⟩, ⟨bk⟩, ⟨bk⟩, ⟨bw⟩⟩
      ·rw [if_neg aN] at H
       have aE : (ad != ab) = false := by simpa using aN
       (try (have c0 : decide (ad = ab) = true := by simpa using aN))
       (try (have ch : (ad == ab) = true := by simpa using aN))
       clear aN
       (first | rw [aE] | (simp only [i64_w, i32_w]; rw [aE]) | skip)
       have H' := Aside0.mk H
       clear H
       have hn62 := nn ao
       have hn63 := nn a6
       have hn64 := nn a7
       have dy := zf2 a0
       have hn66 := nn a5
       have hn67 := nn a4
       have dp := zf2 a1
       go_wp2
       go_meet
       case rel => exact ⟨_, (false), sd, H', ⟨by have := dm.out; first | omega | exact Nat.le_refl _⟩, ⟨rb aW⟩, ⟨rb aP⟩, ⟨bk⟩, ⟨bk⟩, ⟨bk⟩, ⟨bk⟩, ⟨bw⟩⟩
     case rest =>
      clear b7
      try clear bG
      try clear aS
      try clear b0
      try clear aU
      try clear bA
      try clear bf
      try clear cd
      obtain ⟨kq, aA, rfl, HA, HJ43, aa, a9, a0, a1, a2, a3, HB⟩ := hcut
      cases kq with
      | zero => exact absurd HA.out (by simp [lapidaryref02_both.j1])
      | succ kj43 =>
       have H := HA.out
       clear HA
       simp only [lapidaryref02_both.j1] at H
       by_cases cG : aA = true
       ·subst cG
        replace H := ip H
        obtain ⟨y321, hy321⟩ : ∃ y_ : List Int, y_ = (([1] : List Int)) := ⟨_, rfl⟩
        replace H : ((lapidaryref02_sum.f kj43 aD y321).bind fun aJ => ((lapidaryref02_less.f kj43 af az).bind fun aO => ((lapidaryref02_made.f (ad != ab) aJ).bind fun aV => ((lapidaryref02_made.f ab aO).bind fun b3 => (some (aV.1, aV.2, b3.1, b3.2, 0)))))) = some (r1, r2, r3, r4, r5) := by first | (rw [hy321]; with_reducible exact H) | (have cR := (Option.bind_some _ _).symm.trans H; rw [hy321]; with_reducible exact cR) | (have cR := (Option.bind_some _ _).symm.trans H; with_reducible exact cR) | with_reducible exact H | (rw [hy321]; exact H) | exact H
        have b2 := Aside0.mk hy321
        clear hy321
        obtain ⟨aJ, A70, H⟩ := bs H
        obtain ⟨aO, A71, H⟩ := bs H
        obtain ⟨⟨bT, bH⟩, A72, H⟩ := bs H
        obtain ⟨⟨bD, bV⟩, A73, H⟩ := bs H
        simp only [Option.some.injEq, Prod.mk.injEq] at H
        obtain ⟨rfl, rfl, rfl, rfl, rfl⟩ := H
        try go_wp2_with (first | ((with_reducible refine gd 44 rfl ?_); (try (refine gate_guard (by rfl) ?_; dsimp only)); refine Kd.R_lit (Kd.int .u8) _ 5 ?hg (N := 44) ?hd (xs := ([1] : List Int)) (inner := [.int .u8 1]) (ok := fun _ => True) (okp := fun _ => True) ?hr ?hp (fun _ hk => hk) trivial (Below.refl _ _) (Nat.le_refl _) (by simp) ?_; (case hd => rfl); (case hg => rfl); (case hr => first | (go_simp; done) | (go_simp; rfl)); (case hp => exact (Reps.one (show Kd.M (Kd.int .u8) _ _ _ 1 [.int .u8 1] from rfl) (Reps.none _ _))); intro v322 w74 aH hb hg_ bh; clear hg_ bh; (first | rw [← b2.out] at aH | (simp only [Int.reduceToNat] at aH; rw [← b2.out] at aH)); have ae := rL HB (rn (rn aH aa) a9); replace aa := rE aa aH hb; replace a9 := rE a9 aH hb; replace a0 := kB a0 hb; replace a1 := kB a1 hb; replace a2 := kB a2 hb; replace a3 := kB a3 hb; replace HB := hB HB hb; clear hb aH; obtain ⟨d7, d2, cL⟩ := sl aa; cases cL; obtain ⟨da, cP, cY⟩ := sl ae; cases cY) | ((with_reducible refine ga 76 rfl ?_); refine gc (some 45) Try.func76 #[.slice d7 aD.length d2, .slice da y321.length cP] (lapidaryref02_sum.calls kj43 _ _ aD _ _ y321 aJ _ (cr aa) (rl aa) (cr ae) (rl ae) A70.out) ?_; rintro e w78 ⟨v325, rfl, aj, hb⟩; refine ⟨_, rfl, ?_⟩; have ai := rL HB (rn (rn (rn aj aa) a9) ae); replace aa := rE aa aj hb; replace a9 := rE a9 aj hb; replace ae := rE ae aj hb; replace a0 := kB a0 hb; replace a1 := kB a1 hb; replace a2 := kB a2 hb; replace a3 := kB a3 hb; replace HB := hB HB hb; clear hb aj; have hn79 := nn au; have hn80 := nn a5; have hn81 := nn a4; have dx := zf2 a1; obtain ⟨cW, dc, df⟩ := sl a9; cases df) | ((with_reducible refine ga 84 rfl ?_); refine gc (some 49) Try.func84 #[.slice aC af.length aB, .slice cW az.length dc] (lapidaryref02_less.calls kj43 _ _ af _ _ az aO _ (cb aK HB) aM.out (cr a9) (rl a9) A71.out) ?_; rintro e w84 ⟨v328, rfl, aj, hb⟩; refine ⟨_, rfl, ?_⟩; have an := rL HB (rn (rn (rn (rn aj aa) a9) ae) ai); replace aa := rE aa aj hb; replace a9 := rE a9 aj hb; replace ae := rE ae aj hb; replace ai := rE ai aj hb; replace a0 := kB a0 hb; replace a1 := kB a1 hb; replace a2 := kB a2 hb; replace a3 := kB a3 hb; replace HB := hB HB hb; clear hb aj))
        replace aa := Aside0.mk (Kd.R_drew aa.out)
        replace a9 := Aside0.mk (Kd.R_drew a9.out)
        replace ae := Aside0.mk (Kd.R_drew ae.out)
        replace ai := Aside0.mk (Kd.R_drew ai.out)
        replace an := Aside0.mk (Kd.R_drew an.out)
        replace a0 := Aside0.mk (blk_drew a0.out)
        replace a1 := Aside0.mk (blk_drew a1.out)
        replace a2 := Aside0.mk (blk_drew a2.out)
        replace a3 := Aside0.mk (blk_drew a3.out)
        replace HB := Aside0.mk (below_drew1 HB.out)
        obtain ⟨d1, dg, cN⟩ := sl ai; cases cN
        refine st 14 (fun w' => w'.cell? ⟨ax, 0, none⟩ = some (.bool ad) ∧ w'.cell? ⟨ax, 1, none⟩ = some (.slice aw ak.length av) ∧ w'.cell? ⟨ay, 0, none⟩ = some (.bool ab) ∧ w'.cell? ⟨ay, 1, none⟩ = some (.slice aC af.length aB)) [] ⟨bc a0 0, bc a0 1, bc a1 0, bc a1 1⟩ (fun hHeld => ?_); refine with_tabW lapidaryref02_both.tab9 lapidaryref02_both.bits9 (fun ar b6 => ?_)
        generalize w84.drew = w85 at aa a9 ae ai an a0 a1 a2 a3 HB hHeld ⊢
        refine pu ar 0 (some 50) ?_
        refine pu ar 2 (some 52) ?_
        refine pu ar 5 (some 55) ?_
        refine pu ar 7 (some 57) ?_
        refine pu ar 9 (some 59) ?_
        refine tk ar b6 1 (some 51) hHeld ?_
        refine tk ar b6 3 (some 53) hHeld ?_
        refine pu ar 4 (some 54) ?_
        refine tk ar b6 8 (some 58) hHeld ?_
        refine on ar 6 (some 56) fun K hK => ?_
        refine go_ Try.func86 #[.bool (ad != ab), .slice d1 aJ.length dg] ?_
        with_reducible refine (lapidaryref02_made.calls (ad != ab) _ _ aJ bT bH _ ?side1 ?side2 A72.out).mono ?_
        (case side1 => exact cr ai)
        (case side2 => exact rl ai)
        rintro e w87 ⟨v332, rfl, aj, hb⟩
        refine ⟨_, rfl, ?_⟩
        have aG := rL HB (Kd.R_new' (rn (rn (rn (rn aj aa) a9) ae) ai) (Kd.R_lt (rb an)))
        replace aa := rE aa aj hb
        replace a9 := rE a9 aj hb
        replace ae := rE ae aj hb
        replace ai := rE ai aj hb
        replace an := rE an aj hb
        replace a0 := kB a0 hb
        replace a1 := kB a1 hb
        replace a2 := kB a2 hb
        replace a3 := kB a3 hb
        replace HB := hB HB hb
        clear hb aj
        obtain ⟨dd, d0, db⟩ := sl an; cases db
        refine hK.out _ _ ⟨bc a0 0, bc a0 1, bc a1 0, bc a1 1⟩ (fun hHeld => ?_)
        clear hK K
        refine nm (some 56) ?_
        refine on ar 10 (some 60) fun K hK => ?_
        refine go_ Try.func86 #[.bool ab, .slice dd aO.length d0] ?_
        with_reducible refine (lapidaryref02_made.calls ab _ _ aO bD bV _ ?side1 ?side2 A73.out).mono ?_
        (case side1 => exact cr an)
        (case side2 => exact rl an)
        rintro e cD ⟨v336, rfl, aj, hb⟩
        refine ⟨_, rfl, ?_⟩
        have aX := Aside0.mk (Kd.R_lower (Kd.R_new' (Kd.R_new' (rn (rn (rn (rn aj aa) a9) ae) ai) (Kd.R_lt (rb an))) (Kd.R_lt (rb aG))) (sz HB))
        replace aa := rE aa aj hb
        replace a9 := rE a9 aj hb
        replace ae := rE ae aj hb
        replace ai := rE ai aj hb
        replace an := rE an aj hb
        replace aG := rE aG aj hb
        replace a0 := kB a0 hb
        replace a1 := kB a1 hb
        replace a2 := kB a2 hb
        replace a3 := kB a3 hb
        replace HB := hB HB hb
        clear hb aj
        obtain ⟨cT, dh, d3⟩ := sl aG; cases d3
        obtain ⟨cM, cO, d8⟩ := sl aX; cases d8
        refine hK.out _ _ ⟨bc a0 0, bc a0 1, bc a1 0, bc a1 1⟩ (fun hHeld => ?_)
        clear hK K
        refine nm (some 60) ?_
        refine on ar 11 none fun K hK => ?_
        have hs90 : cD.cell? ⟨aq, 0, none⟩ = some (.bool false) := bc a2 0
        have ds := blk_frozen a2.out 0
        have cA := a6.out
        have ck := a5.out
        have cn := ac.out
        have cq := ag.out
        have cC := al.out
        have cJ := a8.out
        have hs92 : cD.cell? ⟨aq, 1, none⟩ = some (.slice none 0 0) := bc a2 1
        have dv := blk_frozen a2.out 1
        have cp := a6.out
        have cz := a5.out
        have cs := ac.out
        have cF := ag.out
        have cI := al.out
        have co := a8.out
        refine skip_ (w1 := ?_) (by rfl) rfl ?_ ?_
        rotate_left
        ·go_simp
         rfl
        refine hK.out _ _ ⟨(cf a6 (cf a6 hHeld.1)), (cf a6 (cf a6 hHeld.2.1)), (cf a5 (cf a5 hHeld.2.2.1)), (cf a5 (cf a5 hHeld.2.2.2))⟩ (fun hHeld => ?_)
        clear hK K
        refine on ar 12 none fun K hK => ?_
        have hs93 : cD.cell? ⟨ap, 0, none⟩ = some (.bool false) := bc a3 0
        have dG := blk_frozen a3.out 0
        have cE := a7.out
        have cw := a4.out
        have cm := a8.out
        have cB := ah.out
        have cl := am.out
        have cj := ac.out
        have hs95 : cD.cell? ⟨ap, 1, none⟩ = some (.slice none 0 0) := bc a3 1
        have dL := blk_frozen a3.out 1
        have cy := a7.out
        have cx := a4.out
        have ct := a8.out
        have cK := ah.out
        have cH := am.out
        have cu := ac.out
        refine skip_ (w1 := ?_) (by rfl) rfl ?_ ?_
        rotate_left
        ·go_simp
         rfl
        refine hK.out _ _ ⟨(cf a7 (cf a7 hHeld.1)), (cf a7 (cf a7 hHeld.2.1)), (cf a4 (cf a4 hHeld.2.2.1)), (cf a4 (cf a4 hHeld.2.2.2))⟩ (fun hHeld => ?_)
        clear hK K
        refine pu ar 13 (some 6) ?_
        refine dn ar ?_
        try go_wp2
        refine bodyPost_ret (results_list (rs := [.cell 4 24, .cell 5 24, .tmp 6]) rfl (by simp) (.cell aq 24 #[.bool bT, .slice cT bH.length dh] (0, 0) _ rfl (bp a2) Try.underlying24 rfl (by kernel_rfl) (.cell ap 24 #[.bool bD, .slice cM bV.length cO] (0, 0) _ rfl (bp a3) Try.underlying24 rfl (by kernel_rfl) (.tmp .nil)))) rfl ?_
        exact ⟨_, _, er, rf (rt (rt aG a2) a3), rf (rt (rt aX a2) a3), bw⟩
       ·replace cG := Bool.eq_false_iff.mpr cG
        subst cG
        replace H := iq H
        obtain ⟨⟨bd, bg⟩, A96, H⟩ := bs H
        obtain ⟨⟨bm, bQ⟩, A97, H⟩ := bs H
        simp only [Option.some.injEq, Prod.mk.injEq] at H
        obtain ⟨rfl, rfl, rfl, rfl, rfl⟩ := H
        try go_wp2
        replace aa := Aside0.mk (Kd.R_drew aa.out)
        replace a9 := Aside0.mk (Kd.R_drew a9.out)
        replace a0 := Aside0.mk (blk_drew a0.out)
        replace a1 := Aside0.mk (blk_drew a1.out)
        replace a2 := Aside0.mk (blk_drew a2.out)
        replace a3 := Aside0.mk (blk_drew a3.out)
        replace HB := Aside0.mk (below_drew1 HB.out)
        obtain ⟨cX, d4, cV⟩ := sl aa; cases cV
        refine st 14 (fun w' => w'.cell? ⟨ax, 0, none⟩ = some (.bool ad) ∧ w'.cell? ⟨ax, 1, none⟩ = some (.slice aw ak.length av) ∧ w'.cell? ⟨ay, 0, none⟩ = some (.bool ab) ∧ w'.cell? ⟨ay, 1, none⟩ = some (.slice aC af.length aB)) [] ⟨bc a0 0, bc a0 1, bc a1 0, bc a1 1⟩ (fun hHeld => ?_); refine with_tabW lapidaryref02_both.tab9 lapidaryref02_both.bits9 (fun ar b6 => ?_)
        generalize wc.drew = w98 at aa a9 a0 a1 a2 a3 HB hHeld ⊢
        refine pu ar 0 (some 50) ?_
        refine pu ar 2 (some 52) ?_
        refine pu ar 5 (some 55) ?_
        refine pu ar 7 (some 57) ?_
        refine pu ar 9 (some 59) ?_
        refine tk ar b6 1 (some 51) hHeld ?_
        refine tk ar b6 3 (some 53) hHeld ?_
        refine pu ar 4 (some 54) ?_
        refine tk ar b6 8 (some 58) hHeld ?_
        refine on ar 6 (some 56) fun K hK => ?_
        refine go_ Try.func86 #[.bool (ad != ab), .slice cX aD.length d4] ?_
        with_reducible refine (lapidaryref02_made.calls (ad != ab) _ _ aD bd bg _ ?side1 ?side2 A96.out).mono ?_
        (case side1 => exact cr aa)
        (case side2 => exact rl aa)
        rintro e w100 ⟨v340, rfl, aj, hb⟩
        refine ⟨_, rfl, ?_⟩
        have aF := rL HB (rn (rn aj aa) a9)
        replace aa := rE aa aj hb
        replace a9 := rE a9 aj hb
        replace a0 := kB a0 hb
        replace a1 := kB a1 hb
        replace a2 := kB a2 hb
        replace a3 := kB a3 hb
        replace HB := hB HB hb
        clear hb aj
        obtain ⟨bz, bb, be⟩ := sl a9; cases be
        refine hK.out _ _ ⟨bc a0 0, bc a0 1, bc a1 0, bc a1 1⟩ (fun hHeld => ?_)
        clear hK K
        refine nm (some 56) ?_
        refine on ar 10 (some 60) fun K hK => ?_
        refine go_ Try.func86 #[.bool ab, .slice bz az.length bb] ?_
        with_reducible refine (lapidaryref02_made.calls ab _ _ az bm bQ _ ?side1 ?side2 A97.out).mono ?_
        (case side1 => exact cr a9)
        (case side2 => exact rl a9)
        rintro e aT ⟨v344, rfl, aj, hb⟩
        refine ⟨_, rfl, ?_⟩
        have aZ := rL HB (rn (rn (rn aj aa) a9) aF)
        replace aa := rE aa aj hb
        replace a9 := rE a9 aj hb
        replace aF := rE aF aj hb
        replace a0 := kB a0 hb
        replace a1 := kB a1 hb
        replace a2 := kB a2 hb
        replace a3 := kB a3 hb
        replace HB := hB HB hb
        clear hb aj
        obtain ⟨bi, bW, bL⟩ := sl aF; cases bL
        obtain ⟨bq, bu, b9⟩ := sl aZ; cases b9
        refine hK.out _ _ ⟨bc a0 0, bc a0 1, bc a1 0, bc a1 1⟩ (fun hHeld => ?_)
        clear hK K
        refine nm (some 60) ?_
        refine on ar 11 none fun K hK => ?_
        have dj : aT.cell? ⟨aq, 0, none⟩ = some (.bool false) := bc a2 0
        have de := blk_frozen a2.out 0
        have bM := a6.out
        have cc := a5.out
        have br := ac.out
        have ca := ag.out
        have ce := al.out
        have bO := a8.out
        have dE : aT.cell? ⟨aq, 1, none⟩ = some (.slice none 0 0) := bc a2 1
        have cZ := blk_frozen a2.out 1
        have cg := a6.out
        have bU := a5.out
        have bR := ac.out
        have bn := ag.out
        have bN := al.out
        have ci := a8.out
        refine skip_ (w1 := ?_) (by rfl) rfl ?_ ?_
        rotate_left
        ·go_simp
         rfl
        refine hK.out _ _ ⟨(cf a6 (cf a6 hHeld.1)), (cf a6 (cf a6 hHeld.2.1)), (cf a5 (cf a5 hHeld.2.2.1)), (cf a5 (cf a5 hHeld.2.2.2))⟩ (fun hHeld => ?_)
        clear hK K
        refine on ar 12 none fun K hK => ?_
        have du : aT.cell? ⟨ap, 0, none⟩ = some (.bool false) := bc a3 0
        have cS := blk_frozen a3.out 0
        have bF := a7.out
        have bZ := a4.out
        have bC := a8.out
        have bv := ah.out
        have bK := am.out
        have bo := ac.out
        have dB : aT.cell? ⟨ap, 1, none⟩ = some (.slice none 0 0) := bc a3 1
        have cU := blk_frozen a3.out 1
        have bJ := a7.out
        have bl := a4.out
        have bB := a8.out
        have bx := ah.out
        have bP := am.out
        have bj := ac.out
        refine skip_ (w1 := ?_) (by rfl) rfl ?_ ?_
        rotate_left
        ·go_simp
         rfl
        refine hK.out _ _ ⟨(cf a7 (cf a7 hHeld.1)), (cf a7 (cf a7 hHeld.2.1)), (cf a4 (cf a4 hHeld.2.2.1)), (cf a4 (cf a4 hHeld.2.2.2))⟩ (fun hHeld => ?_)
        clear hK K
        refine pu ar 13 (some 6) ?_
        refine dn ar ?_
        try go_wp2
        refine bodyPost_ret (results_list (rs := [.cell 4 24, .cell 5 24, .tmp 6]) rfl (by simp) (.cell aq 24 #[.bool bd, .slice bi bg.length bW] (0, 0) _ rfl (bp a2) Try.underlying24 rfl (by kernel_rfl) (.cell ap 24 #[.bool bm, .slice bq bQ.length bu] (0, 0) _ rfl (bp a3) Try.underlying24 rfl (by kernel_rfl) (.tmp .nil)))) rfl ?_
        exact ⟨_, _, er, rf (rt (rt aF a2) a3), rf (rt (rt aZ a2) a3), bw⟩
end Go.Proofs.Ytfjbhccapgnkiaa.P
namespace Go.Proofs.Ytfjbhccapgnkiaa.P
open Go.RowKit Go.Proofs.YtfjbhccapgnkiaaW.PrintWords Go.Proofs.YtfjbhccapgnkiaaW.PrintLast Go.Proofs.YtfjbhccapgnkiaaW.PrintMore
attribute [local go_sem] max2_int min2_int max_two min_two max_three min_three max_four min_four
set_option linter.unusedVariables false
set_option maxHeartbeats 16000000
set_option maxRecDepth 100000
set_option linter.unusedSimpArgs false
/-! ### lapidaryref02_Div: function 21 -/
def lapidaryref02_Div.f (k : Nat) (a1 : Bool) (a2 : List Int) (a4 : Bool) (a3 : List Int) : Option (Bool × List Int × Int) := (lapidaryref02_both.f k a1 a2 a4 a3).bind fun a0 => (some (a0.1, a0.2.1, a0.2.2.2.2))
theorem lapidaryref02_Div.mono : ∀ a0 a1 a2 a3 k, LeO (lapidaryref02_Div.f k a0 a1 a2 a3) (lapidaryref02_Div.f (k + 1) a0 a1 a2 a3) := by
 intro a0 a1 a2 a3 k
 unfold lapidaryref02_Div.f
 repeat' first | with_reducible exact lapidaryref02_both.mono _ _ _ _ _ | with_reducible exact LeO.refl _ | with_reducible exact LeO.none _ | with_reducible refine LeO.ite ?_ ?_ | with_reducible refine LeO.bind ?_ (fun _ => ?_) | exact lapidaryref02_both.mono _ _ _ _ _ | exact LeO.none _ | refine LeO.ite ?_ ?_ | refine LeO.bind ?_ (fun _ => ?_)
theorem lapidaryref02_Div.calls (k : Nat) (a9 : Bool) (an : Option Addr) (am : Nat) (a4 : List Int) (aj : Bool) (al : Option Addr) (ao : Nat) (a5 : List Int) (r1 : Bool) (r2 : List Int) (r3 : Int) (w : World) (au : Kd.C (Kd.int .u8) w an a4.length a4) (ar : a4.length ≤ am) (aq : Kd.C (Kd.int .u8) w al a5.length a5) (av : a5.length ≤ ao) (h : lapidaryref02_Div.f k a9 a4 aj a5 = some (r1, r2, r3)) :
  Calls Try.prog 21 #[.agg #[.bool a9, .slice an a4.length am], .agg #[.bool aj, .slice al a5.length ao]] w fun e w' => ∃ aY : Value, e = .returned (.tuple #[.agg #[.bool r1, aY], .int .i64 r3]) ∧ Kd.R (Kd.int .u8) 5 w' w.heap.size (fun _ => True) aY r2 ∧ Below w.heap.size w w' := by
 have hu24 := Try.underlying24
 have aK := Aside0.mk au
 have aH := Aside0.mk ar
 clear au ar
 have aG := Aside0.mk aq
 have aI := Aside0.mk av
 clear aq av
 have HB := Aside0.mk (Below.refl w.heap.size w)
 have H : ((lapidaryref02_both.f k a9 a4 aj a5).bind fun ak => (some (ak.1, ak.2.1, ak.2.2.2.2))) = some (r1, r2, r3) := h
 clear h
 obtain ⟨⟨aM, aL, aP, aQ, aN⟩, A3, H⟩ := bs H
 simp only [Option.some.injEq, Prod.mk.injEq] at H
 obtain ⟨rfl, rfl, rfl⟩ := H
 go_enter Try.func21, Try.ntmps21
 go_wp2_with (first | ((with_reducible refine gd 2 rfl ?_); refine bX 2 rfl HB #[.bool a9, .slice an a4.length am] 24 ?_; intro b0 w4 a0 b2 hg hb; replace HB := hB HB hb; clear hb hg) | ((with_reducible refine gd 3 rfl ?_); refine bX 3 rfl HB #[.bool aj, .slice al a5.length ao] 24 ?_; intro aU w5 a1 b7 hg hb; obtain ⟨ad, aA⟩ := nB a0 hg; replace a0 := kB a0 hb; replace HB := hB HB hb; clear hb hg) | ((with_reducible refine gd 4 rfl ?_); refine bX 4 rfl HB #[.bool false, .slice none 0 0] 24 ?_; intro aJ w6 a2 aX hg hb; obtain ⟨af, az⟩ := nB a0 hg; obtain ⟨ag, ay⟩ := nB a1 hg; replace a0 := kB a0 hb; replace a1 := kB a1 hb; replace HB := hB HB hb; clear hb hg; have hn7 := nn ad; have hn8 := nn af; have hcz9 := zf2 a0; have hn10 := nn ag; have aW := zf2 a1) | ((with_reducible refine ga 72 rfl ?_); refine gc (some 12) Try.func72 #[.agg #[.bool a9, .slice an a4.length am], .agg #[.bool aj, .slice al a5.length ao]] (lapidaryref02_both.calls k a9 _ _ a4 aj _ _ a5 aM aL aP aQ aN _ (cb aK HB) aH.out (cb aG HB) aI.out A3.out) ?_; rintro e w12 ⟨v351, v355, rfl, b3, b5, hb⟩; refine ⟨_, rfl, ?_⟩; have a3 := rL HB b3; have a7 := rL HB b5; replace a0 := kB a0 hb; replace a1 := kB a1 hb; replace a2 := kB a2 hb; replace HB := hB HB hb; clear hb b3 b5) | ((with_reducible refine gd 6 rfl ?_); refine bX 6 rfl HB #[.bool false, .slice none 0 0] 24 ?_; intro aV w13 a6 b1 hg hb; obtain ⟨aD, ae⟩ := nB a0 hg; obtain ⟨aE, ab⟩ := nB a1 hg; obtain ⟨ax, aa⟩ := nB a2 hg; replace a3 := rB a3 hb; replace a7 := rB a7 hb; replace a0 := kB a0 hb; replace a1 := kB a1 hb; replace a2 := kB a2 hb; replace HB := hB HB hb; clear hb hg) | ((with_reducible refine gd 7 rfl ?_); refine bX 7 rfl HB #[.bool false, .slice none 0 0] 24 ?_; intro b8 w14 ap b4 hg hb; obtain ⟨aB, a8⟩ := nB a0 hg; obtain ⟨aw, ac⟩ := nB a1 hg; obtain ⟨aF, ai⟩ := nB a2 hg; obtain ⟨ah, aC⟩ := nB a6 hg; replace a3 := rB a3 hb; replace a7 := rB a7 hb; replace a0 := kB a0 hb; replace a1 := kB a1 hb; replace a2 := kB a2 hb; replace a6 := kB a6 hb; replace HB := hB HB hb; clear hb hg; have hn15 := nn ae; have hn16 := nn ab; have hn17 := nn aa; have hn18 := nn ah; have aZ := zf2 a6; obtain ⟨aO, aT, aS⟩ := sl a3; cases aS; have hn21 := nn a8; have hn22 := nn ac; have hn23 := nn ai; have b9 := zf2 ap; obtain ⟨Ao25, co25, aR⟩ := sl a7; cases aR; have b6 := zf2 a2))
 refine bodyPost_ret (results_ct rfl _ _ aJ 24 #[.bool aM, .slice aO aL.length aT] (0, 0) _ rfl (bp a2) Try.underlying24 rfl (by kernel_rfl)) rfl ?_
 exact ⟨_, er, rf (rt (rt (rt a3 a6) ap) a2), bw⟩
/-! ### lapidaryref02_Mod: function 23 -/
def lapidaryref02_Mod.f (k : Nat) (a1 : Bool) (a2 : List Int) (a4 : Bool) (a3 : List Int) : Option (Bool × List Int × Int) := (lapidaryref02_both.f k a1 a2 a4 a3).bind fun a0 => (some (a0.2.2.1, a0.2.2.2.1, a0.2.2.2.2))
theorem lapidaryref02_Mod.mono : ∀ a0 a1 a2 a3 k, LeO (lapidaryref02_Mod.f k a0 a1 a2 a3) (lapidaryref02_Mod.f (k + 1) a0 a1 a2 a3) := by
 intro a0 a1 a2 a3 k
 unfold lapidaryref02_Mod.f
 repeat' first | with_reducible exact lapidaryref02_both.mono _ _ _ _ _ | with_reducible exact LeO.refl _ | with_reducible exact LeO.none _ | with_reducible refine LeO.ite ?_ ?_ | with_reducible refine LeO.bind ?_ (fun _ => ?_) | exact lapidaryref02_both.mono _ _ _ _ _ | exact LeO.none _ | refine LeO.ite ?_ ?_ | refine LeO.bind ?_ (fun _ => ?_)
theorem lapidaryref02_Mod.calls (k : Nat) (aa : Bool) (an : Option Addr) (am : Nat) (a4 : List Int) (ad : Bool) (al : Option Addr) (ao : Nat) (a5 : List Int) (r1 : Bool) (r2 : List Int) (r3 : Int) (w : World) (au : Kd.C (Kd.int .u8) w an a4.length a4) (aq : a4.length ≤ am) (ap : Kd.C (Kd.int .u8) w al a5.length a5) (av : a5.length ≤ ao) (h : lapidaryref02_Mod.f k aa a4 ad a5 = some (r1, r2, r3)) :
  Calls Try.prog 23 #[.agg #[.bool aa, .slice an a4.length am], .agg #[.bool ad, .slice al a5.length ao]] w fun e w' => ∃ b0 : Value, e = .returned (.tuple #[.agg #[.bool r1, b0], .int .i64 r3]) ∧ Kd.R (Kd.int .u8) 5 w' w.heap.size (fun _ => True) b0 r2 ∧ Below w.heap.size w w' := by
 have hu24 := Try.underlying24
 have aM := Aside0.mk au
 have aH := Aside0.mk aq
 clear au aq
 have aG := Aside0.mk ap
 have aI := Aside0.mk av
 clear ap av
 have HB := Aside0.mk (Below.refl w.heap.size w)
 have H : ((lapidaryref02_both.f k aa a4 ad a5).bind fun ak => (some (ak.2.2.1, ak.2.2.2.1, ak.2.2.2.2))) = some (r1, r2, r3) := h
 clear h
 obtain ⟨⟨aS, aP, aK, aL, aO⟩, A3, H⟩ := bs H
 simp only [Option.some.injEq, Prod.mk.injEq] at H
 obtain ⟨rfl, rfl, rfl⟩ := H
 go_enter Try.func23, Try.ntmps23
 go_wp2_with (first | ((with_reducible refine gd 2 rfl ?_); refine bX 2 rfl HB #[.bool aa, .slice an a4.length am] 24 ?_; intro b2 w4 a0 aW hg hb; replace HB := hB HB hb; clear hb hg) | ((with_reducible refine gd 3 rfl ?_); refine bX 3 rfl HB #[.bool ad, .slice al a5.length ao] 24 ?_; intro aU w5 a1 b9 hg hb; obtain ⟨ac, aE⟩ := nB a0 hg; replace a0 := kB a0 hb; replace HB := hB HB hb; clear hb hg) | ((with_reducible refine gd 4 rfl ?_); refine bX 4 rfl HB #[.bool false, .slice none 0 0] 24 ?_; intro aJ w6 a2 aZ hg hb; obtain ⟨ab, aC⟩ := nB a0 hg; obtain ⟨ag, aB⟩ := nB a1 hg; replace a0 := kB a0 hb; replace a1 := kB a1 hb; replace HB := hB HB hb; clear hb hg; have hn7 := nn ac; have hn8 := nn ab; have hcz9 := zf2 a0; have hn10 := nn ag; have aY := zf2 a1) | ((with_reducible refine ga 72 rfl ?_); refine gc (some 12) Try.func72 #[.agg #[.bool aa, .slice an a4.length am], .agg #[.bool ad, .slice al a5.length ao]] (lapidaryref02_both.calls k aa _ _ a4 ad _ _ a5 aS aP aK aL aO _ (cb aM HB) aH.out (cb aG HB) aI.out A3.out) ?_; rintro e w12 ⟨v379, v383, rfl, b3, b4, hb⟩; refine ⟨_, rfl, ?_⟩; have a6 := rL HB b3; have a3 := rL HB b4; replace a0 := kB a0 hb; replace a1 := kB a1 hb; replace a2 := kB a2 hb; replace HB := hB HB hb; clear hb b3 b4) | ((with_reducible refine gd 6 rfl ?_); refine bX 6 rfl HB #[.bool false, .slice none 0 0] 24 ?_; intro b6 w13 a7 aX hg hb; obtain ⟨aw, a8⟩ := nB a0 hg; obtain ⟨ax, aj⟩ := nB a1 hg; obtain ⟨aF, ah⟩ := nB a2 hg; replace a6 := rB a6 hb; replace a3 := rB a3 hb; replace a0 := kB a0 hb; replace a1 := kB a1 hb; replace a2 := kB a2 hb; replace HB := hB HB hb; clear hb hg) | ((with_reducible refine gd 7 rfl ?_); refine bX 7 rfl HB #[.bool false, .slice none 0 0] 24 ?_; intro b8 w14 ar aV hg hb; obtain ⟨ay, a9⟩ := nB a0 hg; obtain ⟨aD, ae⟩ := nB a1 hg; obtain ⟨aA, ai⟩ := nB a2 hg; obtain ⟨af, az⟩ := nB a7 hg; replace a6 := rB a6 hb; replace a3 := rB a3 hb; replace a0 := kB a0 hb; replace a1 := kB a1 hb; replace a2 := kB a2 hb; replace a7 := kB a7 hb; replace HB := hB HB hb; clear hb hg; have hn15 := nn a8; have hn16 := nn aj; have hn17 := nn ah; have hn18 := nn af; have b1 := zf2 a7; obtain ⟨Ao20, co20, aR⟩ := sl a6; cases aR; have hn21 := nn a9; have hn22 := nn ae; have hn23 := nn ai; have b7 := zf2 ar; obtain ⟨aN, aT, aQ⟩ := sl a3; cases aQ; have b5 := zf2 a2))
 refine bodyPost_ret (results_ct rfl _ _ aJ 24 #[.bool aK, .slice aN aL.length aT] (0, 0) _ rfl (bp a2) Try.underlying24 rfl (by kernel_rfl)) rfl ?_
 exact ⟨_, er, rf (rt (rt (rt a3 a7) ar) a2), bw⟩
end Go.Proofs.Ytfjbhccapgnkiaa.P
