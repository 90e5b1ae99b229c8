import Derived.Test.YtfjbhccapgnkiaaC4t
import Derived.Test.YtfjbhccapgnkiaaC1b
namespace Go.Proofs.Ytfjbhccapgnkiaa.P
open Go.RowKit Go.Proofs.YtfjbhccapgnkiaaW.PrintWords Go.Proofs.YtfjbhccapgnkiaaW.PrintLast Go.Proofs.YtfjbhccapgnkiaaW.PrintMore
attribute [local go_sem] max2_int min2_int max_two min_two max_three min_three max_four min_four
set_option linter.unusedVariables false
set_option maxHeartbeats 16000000
set_option maxRecDepth 100000
set_option linter.unusedSimpArgs false
/-! ### lapidaryref02_Mul: function 27 -/
mutual
def lapidaryref02_Mul.j0 : Nat → Bool → Bool → List Int → Bool → List Int → Option (Bool × List Int × Int)
 | 0, _, _, _, _, _ => none
 | k + 1, x15, a3, a2, a0, a1 => if x15 = true then (some (false, ([] : List Int), 1)) else (lapidaryref02_Mul.l0 k ([] : List Int) 0 a3 a2 a0 a1)
def lapidaryref02_Mul.l0 : Nat → List Int → Int → Bool → List Int → Bool → List Int → Option (Bool × List Int × Int)
 | 0, _, _, _, _, _, _ => none
 | k + 1, x6, x7, a3, a2, a1, a0 => if x7 < (a0.length : Int) then ((lapidaryref02_at.f a0 x7).bind fun a7 => ((lapidaryref02_times.f k a2 a7 x7).bind fun a5 => ((lapidaryref02_sum.f k x6 a5).bind fun a6 => (lapidaryref02_Mul.l0 k a6 (wrap64 (x7 + 1)) a3 a2 a1 a0)))) else ((lapidaryref02_fits.f (a3 != a1) x6).bind fun a4 => (some (a4.1, a4.2.1, a4.2.2)))
end
def lapidaryref02_Mul.f (k : Nat) (a0 : Bool) (a1 : List Int) (a3 : Bool) (a2 : List Int) : Option (Bool × List Int × Int) := (lapidaryref02_Right.f a0 a1).bind fun a4 => (if a4 = true then ((lapidaryref02_Right.f a3 a2).bind fun a5 => (lapidaryref02_Mul.j0 k (!a5) a0 a1 a3 a2)) else (lapidaryref02_Mul.j0 k true a0 a1 a3 a2))
theorem lapidaryref02_Mul.mono_l : ∀ k, (∀ y0 y1 y2 y3 y4, LeO (lapidaryref02_Mul.j0 k y0 y1 y2 y3 y4) (lapidaryref02_Mul.j0 (k + 1) y0 y1 y2 y3 y4)) ∧ (∀ y0 y1 y2 y3 y4 y5, LeO (lapidaryref02_Mul.l0 k y0 y1 y2 y3 y4 y5) (lapidaryref02_Mul.l0 (k + 1) y0 y1 y2 y3 y4 y5))
 | 0 => ⟨fun _ _ _ _ _ r h => by simp [lapidaryref02_Mul.j0] at h, fun _ _ _ _ _ _ r h => by simp [lapidaryref02_Mul.l0] at h⟩
 | k + 1 => by
  obtain ⟨a0, a1⟩ := lapidaryref02_Mul.mono_l k
  refine ⟨?_, ?_⟩
  ·intro y0 y1 y2 y3 y4
   unfold lapidaryref02_Mul.j0
   repeat' first | with_reducible exact a0 _ _ _ _ _ | with_reducible exact a1 _ _ _ _ _ _ | with_reducible exact lapidaryref02_sum.mono _ _ _ | with_reducible exact lapidaryref02_times.mono _ _ _ _ | with_reducible exact LeO.refl _ | with_reducible exact LeO.none _ | with_reducible refine LeO.ite ?_ ?_ | with_reducible refine LeO.bind ?_ (fun _ => ?_) | exact a0 _ _ _ _ _ | exact a1 _ _ _ _ _ _ | exact lapidaryref02_sum.mono _ _ _ | exact lapidaryref02_times.mono _ _ _ _ | exact LeO.none _ | refine LeO.ite ?_ ?_ | refine LeO.bind ?_ (fun _ => ?_)
  ·intro y0 y1 y2 y3 y4 y5
   unfold lapidaryref02_Mul.l0
   repeat' first | with_reducible exact a0 _ _ _ _ _ | with_reducible exact a1 _ _ _ _ _ _ | with_reducible exact lapidaryref02_sum.mono _ _ _ | with_reducible exact lapidaryref02_times.mono _ _ _ _ | with_reducible exact LeO.refl _ | with_reducible exact LeO.none _ | with_reducible refine LeO.ite ?_ ?_ | with_reducible refine LeO.bind ?_ (fun _ => ?_) | exact a0 _ _ _ _ _ | exact a1 _ _ _ _ _ _ | exact lapidaryref02_sum.mono _ _ _ | exact lapidaryref02_times.mono _ _ _ _ | exact LeO.none _ | refine LeO.ite ?_ ?_ | refine LeO.bind ?_ (fun _ => ?_)
theorem lapidaryref02_Mul.mono : ∀ a0 a1 a2 a3 k, LeO (lapidaryref02_Mul.f k a0 a1 a2 a3) (lapidaryref02_Mul.f (k + 1) a0 a1 a2 a3) := by
 intro a0 a1 a2 a3 k
 obtain ⟨a4, a5⟩ := lapidaryref02_Mul.mono_l k
 unfold lapidaryref02_Mul.f
 repeat' first | with_reducible exact a4 _ _ _ _ _ | with_reducible exact a5 _ _ _ _ _ _ | with_reducible exact lapidaryref02_sum.mono _ _ _ | with_reducible exact lapidaryref02_times.mono _ _ _ _ | with_reducible exact LeO.refl _ | with_reducible exact LeO.none _ | with_reducible refine LeO.ite ?_ ?_ | with_reducible refine LeO.bind ?_ (fun _ => ?_) | exact a4 _ _ _ _ _ | exact a5 _ _ _ _ _ _ | exact lapidaryref02_sum.mono _ _ _ | exact lapidaryref02_times.mono _ _ _ _ | exact LeO.none _ | refine LeO.ite ?_ ?_ | refine LeO.bind ?_ (fun _ => ?_)
def lapidaryref02_Mul.T7 : Bool × List (List Nat × List Nat) := (true, [([], []), ([], []), ([1], [1]), ([], []), ([3], [3]), ([], []), ([4, 5], [4, 5]), ([], []), ([2, 6, 7, 6], [2, 6, 7]), ([0, 8, 8], [0, 8]), ([9, 9, 0, 1, 2, 3, 4, 5, 6, 7, 8, 9], [0, 9])])
def lapidaryref02_Mul.B7 : List Nat := [0, 0, 2, 0, 8, 0, 56, 0, 254, 511, 1023]
theorem lapidaryref02_Mul.tab7 : rtab .any (opsOf Try.f27 7) = lapidaryref02_Mul.T7 := by kernel_rfl
theorem lapidaryref02_Mul.bits7 : waitsOk lapidaryref02_Mul.T7.2 lapidaryref02_Mul.B7 = true := by kernel_rfl
theorem lapidaryref02_Mul.calls (k : Nat) (a6 : Bool) (af : Option Addr) (ae : Nat) (a3 : List Int) (a7 : Bool) (ag : Option Addr) (ai : Nat) (a4 : List Int) (r1 : Bool) (r2 : List Int) (r3 : Int) (w : World) (aA : Kd.C (Kd.int .u8) w af a3.length a3) (az : a3.length ≤ ae) (ax : Kd.C (Kd.int .u8) w ag a4.length a4) (aC : a4.length ≤ ai) (h : lapidaryref02_Mul.f k a6 a3 a7 a4 = some (r1, r2, r3)) :
  Calls Try.prog 27 #[.agg #[.bool a6, .slice af a3.length ae], .agg #[.bool a7, .slice ag a4.length ai]] w fun e w' => ∃ b5 : Value, e = .returned (.tuple #[.agg #[.bool r1, b5], .int .i64 r3]) ∧ Kd.R (Kd.int .u8) 5 w' w.heap.size (fun _ => True) b5 r2 ∧ Below w.heap.size w w' := by
 have hu24 := Try.underlying24
 have au := Aside0.mk aA
 have ar := Aside0.mk az
 clear aA az
 have aw := Aside0.mk ax
 have ay := Aside0.mk aC
 clear ax aC
 have HB := Aside0.mk (Below.refl w.heap.size w)
 have H : ((lapidaryref02_Right.f a6 a3).bind fun aF => (if aF = true then ((lapidaryref02_Right.f a7 a4).bind fun av => (lapidaryref02_Mul.j0 k (!av) a6 a3 a7 a4)) else (lapidaryref02_Mul.j0 k true a6 a3 a7 a4))) = some (r1, r2, r3) := h
 clear h
 have aU := Aside0.mk H
 clear H
 go_enter Try.func27, Try.ntmps27
 go_upto_region 1 with (first | ((with_reducible refine gd 2 rfl ?_); refine bX 2 rfl HB #[.bool a6, .slice af a3.length ae] 24 ?_; intro am w4 a0 bg hg hb; replace HB := hB HB hb; clear hb hg) | ((with_reducible refine gd 3 rfl ?_); refine bX 3 rfl HB #[.bool a7, .slice ag a4.length ai] 24 ?_; intro aj w5 a1 b4 hg hb; obtain ⟨ab, ac⟩ := nB a0 hg; replace a0 := kB a0 hb; replace HB := hB HB hb; clear hb hg) | ((with_reducible refine gd 4 rfl ?_); refine bX 4 rfl HB #[.bool false, .slice none 0 0] 24 ?_; intro al w6 a2 b8 hg hb; obtain ⟨a8, an⟩ := nB a0 hg; obtain ⟨a9, ao⟩ := nB a1 hg; replace a0 := kB a0 hb; replace a1 := kB a1 hb; replace HB := hB HB hb; clear hb hg))
 (try simp only [Act.put, List.setIfInBounds_toArray, List.set_cons_zero, List.set_cons_succ])
 go_cut [15] (fun v15 wc => ∃ (kq : Nat) (ak : Bool), v15 = .bool ak ∧ Aside0 (lapidaryref02_Mul.j0 kq ak a6 a3 a7 a4 = some (r1, r2, r3)) ∧ Aside0 (kq ≤ k) ∧ Aside0 (wc.heap[am]? = some (.cells #[.bool a6, (.slice af a3.length ae)] 24 (0, 0))) ∧ Aside0 (wc.heap[aj]? = some (.cells #[.bool a7, (.slice ag a4.length ai)] 24 (0, 0))) ∧ Aside0 (wc.heap[al]? = some (.cells #[.bool false, (.slice none 0 0)] 24 (0, 0))) ∧ Aside0 (Below w.heap.size w wc))
 case first =>
  have H := aU.out
  clear aU
  obtain ⟨aF, A7, H⟩ := bs H
  by_cases c8 : aF = true
  ·subst c8
   replace H := ip H
   obtain ⟨av, A9, H⟩ := bs H
   have H' := Aside0.mk H
   clear H
   have hn10 := nn ab
   have hn11 := nn a8
   have bb := zf2 a0
   go_wp2_with (first | ((with_reducible refine ga 40 rfl ?_); refine gc (some 9) Try.func40 #[.agg #[.bool a6, .slice af a3.length ae]] (lapidaryref02_Right.calls a6 _ _ a3 true _ (cb au HB) ar.out A7.out) ?_; rintro e w13 ⟨rfl, hb⟩; refine ⟨_, rfl, ?_⟩; replace a0 := kB a0 hb; replace a1 := kB a1 hb; replace a2 := kB a2 hb; replace HB := hB HB hb; clear hb; have hn14 := nn a9; have b2 := zf2 a1) | (go_at_call 40; (with_reducible refine (lapidaryref02_Right.calls a7 _ _ a4 av _ ?side1 ?side2 A9.out).mono ?_); (case side1 => exact cb aw HB); (case side2 => exact ay.out); rintro e w16 ⟨rfl, hb⟩; replace a0 := kB a0 hb; replace a1 := kB a1 hb; replace a2 := kB a2 hb; replace HB := hB HB hb; clear hb))
   go_meet
   case rel => exact ⟨_, (!av), sd, H', ⟨le_⟩, ⟨bk⟩, ⟨bk⟩, ⟨bk⟩, ⟨bw⟩⟩
  ·replace c8 := Bool.eq_false_iff.mpr c8
   subst c8
   replace H := iq H
   have H' := Aside0.mk H
   clear H
   have hn17 := nn ab
   have hn18 := nn a8
   have b6 := zf2 a0
   go_wp2_with (first | ((with_reducible refine ga 40 rfl ?_); refine gc (some 9) Try.func40 #[.agg #[.bool a6, .slice af a3.length ae]] (lapidaryref02_Right.calls a6 _ _ a3 false _ (cb au HB) ar.out A7.out) ?_; rintro e w20 ⟨rfl, hb⟩; refine ⟨_, rfl, ?_⟩; replace a0 := kB a0 hb; replace a1 := kB a1 hb; replace a2 := kB a2 hb; replace HB := hB HB hb; clear hb))
   go_meet
   case rel => exact ⟨_, (true), sd, H', ⟨le_⟩, ⟨bk⟩, ⟨bk⟩, ⟨bk⟩, ⟨bw⟩⟩
 case rest =>
  clear aU
  obtain ⟨kq, ak, rfl, HA, b3, a0, a1, a2, HB⟩ := hcut
  cases kq with
  | zero => exact absurd HA.out (by simp [lapidaryref02_Mul.j0])
  | succ kj2 =>
   have H := HA.out
   clear HA
   simp only [lapidaryref02_Mul.j0] at H
   by_cases aM : ak = true
   ·subst aM
    replace H := ip H
    simp only [Option.some.injEq, Prod.mk.injEq] at H
    obtain ⟨rfl, rfl, rfl⟩ := H
    have hn22 := nn an
    have hn23 := nn ao
    have bf := zf2 a2
    go_wp2
    refine bodyPost_ret (results_ct rfl _ _ al 24 #[.bool false, .slice none 0 0] (0, 0) _ rfl (bp a2) Try.underlying24 rfl (by kernel_rfl)) rfl ?_
    exact ⟨_, er, nl, bw⟩
   ·replace aM := Bool.eq_false_iff.mpr aM
    subst aM
    replace H := iq H
    have H' := Aside0.mk H
    clear H
    go_wp2
    go_loopg [6, 7] kj2 (fun kq v6 v7 w' => ∃ (ah : List Int) (aa : Int), v7 = .int .i64 aa ∧ Aside0 (lapidaryref02_Mul.l0 kq ah aa a6 a3 a7 a4 = some (r1, r2, r3)) ∧ Aside0 (kq ≤ kj2) ∧ Aside0 (Kd.R (Kd.int .u8) 5 w' w.heap.size (fun _ => True) v6 ah) ∧ Aside0 (w'.heap[am]? = some (.cells #[.bool a6, (.slice af a3.length ae)] 24 (0, 0))) ∧ Aside0 (w'.heap[aj]? = some (.cells #[.bool a7, (.slice ag a4.length ai)] 24 (0, 0))) ∧ Aside0 (w'.heap[al]? = some (.cells #[.bool false, (.slice none 0 0)] 24 (0, 0))) ∧ Aside0 (Below w.heap.size w w'))
    case atStart => exact ⟨(([] : List Int)), (0), sd, H', ⟨Nat.le_refl _⟩, ⟨nl⟩, ⟨bk⟩, ⟨bk⟩, ⟨bk⟩, ⟨bw⟩⟩
    case round =>
     clear H'
     try clear aM
     obtain ⟨ah, aa, rfl, HA, b7, a5, a0, a1, a2, HB⟩ := hrel
     cases gk with
     | zero => exact absurd HA.out (by simp [lapidaryref02_Mul.l0])
     | succ k2 =>
      have H := HA.out
      clear HA
      simp only [lapidaryref02_Mul.l0] at H
      by_cases aG : aa < (a4.length : Int)
      ·rw [if_pos aG] at H
       have aJ : decide (aa < (a4.length : Int)) = true := decide_eq_true aG
       clear aG
       obtain ⟨aE, A26, H⟩ := bs H
       obtain ⟨aD, A27, H⟩ := bs H
       obtain ⟨aI, A28, H⟩ := bs H
       have H' := Aside0.mk H
       clear H
       have hn29 := nn ac
       have hn30 := nn a9
       have b1 := zf2 a1
       try go_wp2
       replace a5 := Aside0.mk (Kd.R_drew a5.out)
       replace a0 := Aside0.mk (blk_drew a0.out)
       replace a1 := Aside0.mk (blk_drew a1.out)
       replace a2 := Aside0.mk (blk_drew a2.out)
       replace HB := Aside0.mk (below_drew1 HB.out)
       refine st 11 (fun w' => w'.cell? ⟨am, 0, none⟩ = some (.bool a6) ∧ w'.cell? ⟨am, 1, none⟩ = some (.slice af a3.length ae) ∧ w'.cell? ⟨aj, 0, none⟩ = some (.bool a7) ∧ w'.cell? ⟨aj, 1, none⟩ = some (.slice ag a4.length ai)) [] ⟨bc a0 0, bc a0 1, bc a1 0, bc a1 1⟩ (fun hHeld => ?_); refine with_tabW lapidaryref02_Mul.tab7 lapidaryref02_Mul.bits7 (fun ap b9 => ?_)
       generalize wr.drew = w32 at a5 a0 a1 a2 HB hHeld ⊢
       refine pu ap 0 (some 24) ?_
       refine pu ap 1 (some 25) ?_
       refine pu ap 3 (some 27) ?_
       refine pu ap 5 (some 29) ?_
       refine pu ap 7 (some 31) ?_
       refine tk ap b9 2 (some 26) hHeld ?_
       refine tk ap b9 4 (some 28) hHeld ?_
       refine on ap 6 (some 30) fun K hK => ?_
       refine go_ Try.func78 #[.slice ag a4.length ai, .int .i64 aa] ?_
       with_reducible refine (lapidaryref02_at.calls _ _ a4 aa aE _ ?side1 ?side2 A26.out).mono ?_
       (case side1 => exact cb aw HB)
       (case side2 => exact ay.out)
       rintro e w' ⟨rfl, ⟨nd, rfl⟩⟩
       refine ⟨_, rfl, ?_⟩
       refine hK.out _ _ ⟨bc a0 0, bc a0 1, bc a1 0, bc a1 1⟩ (fun hHeld => ?_)
       clear hK K
       refine nm (some 30) ?_
       refine on ap 8 (some 32) fun K hK => ?_
       refine go_ Try.func77 #[.slice af a3.length ae, .int .i64 aE, .int .i64 aa] ?_
       with_reducible refine (lapidaryref02_times.calls k2 _ _ a3 aE aa aD _ ?side1 ?side2 A27.out).mono ?_
       (case side1 => exact cb au HB)
       (case side2 => exact ar.out)
       rintro e w33 ⟨v550, rfl, aq, hb⟩
       refine ⟨_, rfl, ?_⟩
       have ad := rL HB (rn aq a5)
       replace a5 := rE a5 aq hb
       replace a0 := kB a0 hb
       replace a1 := kB a1 hb
       replace a2 := kB a2 hb
       replace HB := hB HB hb
       clear hb aq
       obtain ⟨aY, b0, aZ⟩ := sl a5; cases aZ
       obtain ⟨aP, aV, aQ⟩ := sl ad; cases aQ
       refine hK.out _ _ ⟨bc a0 0, bc a0 1, bc a1 0, bc a1 1⟩ (fun hHeld => ?_)
       clear hK K
       refine nm (some 32) ?_
       refine on ap 9 (some 33) fun K hK => ?_
       refine go_ Try.func76 #[.slice aY ah.length b0, .slice aP aD.length aV] ?_
       with_reducible refine (lapidaryref02_sum.calls k2 _ _ ah _ _ aD aI _ ?side1 ?side2 ?side3 ?side4 A28.out).mono ?_
       (case side1 => exact cr a5)
       (case side2 => exact rl a5)
       (case side3 => exact cr ad)
       (case side4 => exact rl ad)
       rintro e w36 ⟨v553, rfl, aq, hb⟩
       refine ⟨_, rfl, ?_⟩
       have aK := rL HB (rn (rn aq a5) ad)
       replace a5 := rE a5 aq hb
       replace ad := rE ad aq hb
       replace a0 := kB a0 hb
       replace a1 := kB a1 hb
       replace a2 := kB a2 hb
       replace HB := hB HB hb
       clear hb aq
       refine hK.out _ _ ⟨bc a0 0, bc a0 1, bc a1 0, bc a1 1⟩ (fun hHeld => ?_)
       clear hK K
       refine nm (some 33) ?_
       refine pu ap 10 (some 6) ?_
       refine dn ap ?_
       try go_wp2
       go_roundg k2
       case measure => have := b3.out; have := b7.out; omega
       case rel => exact ⟨(aI), (wrap64 (aa + 1)), sd, H', ⟨by have := b3.out; have := b7.out; omega⟩, ⟨by (with_reducible repeat (first | apply Kd.R_alloc | apply Kd.R_drewN | apply Kd.R_drew)); exact Kd.R_mono aK.out (fun _ hk => trivial)⟩, ⟨bk⟩, ⟨bk⟩, ⟨bk⟩, ⟨bw⟩⟩
      ·rw [if_neg aG] at H
       have aJ : decide (aa < (a4.length : Int)) = false := decide_eq_false aG
       clear aG
       obtain ⟨⟨aH, aL, aO⟩, A37, H⟩ := bs H
       simp only [Option.some.injEq, Prod.mk.injEq] at H
       obtain ⟨rfl, rfl, rfl⟩ := H
       have hn38 := nn ac
       have hn39 := nn a9
       have be := zf2 a1
       have hn41 := nn a8
       have ba := zf2 a0
       obtain ⟨aN, aS, aR⟩ := sl a5; cases aR
       go_wp2_with (first | ((with_reducible refine ga 79 rfl ?_); refine gc (some 40) Try.func79 #[.bool (a6 != a7), .slice aN ah.length aS] (lapidaryref02_fits.calls (a6 != a7) _ _ ah aH aL aO _ (cr a5) (rl a5) A37.out) ?_; rintro e w44 ⟨v557, rfl, aq, hb⟩; refine ⟨_, rfl, ?_⟩; have aB := rL HB (rn aq a5); replace a5 := rE a5 aq hb; replace a0 := kB a0 hb; replace a1 := kB a1 hb; replace a2 := kB a2 hb; replace HB := hB HB hb; clear hb aq; have bd := zf2 a2; obtain ⟨aT, aX, aW⟩ := sl aB; cases aW))
       refine bodyPost_ret (results_ct rfl _ _ al 24 #[.bool aH, .slice aT aL.length aX] (0, 0) _ rfl (bp a2) Try.underlying24 rfl (by kernel_rfl)) rfl ?_
       exact ⟨_, er, rf (rt aB a2), bw⟩
end Go.Proofs.Ytfjbhccapgnkiaa.P
