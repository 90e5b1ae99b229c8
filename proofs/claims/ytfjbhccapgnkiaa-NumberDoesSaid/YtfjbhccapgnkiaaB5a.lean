import Derived.Test.YtfjbhccapgnkiaaB1
namespace Go.Proofs.Ytfjbhccapgnkiaa.P
open Go.RowKit Go.Proofs.YtfjbhccapgnkiaaW.PrintWords Go.Proofs.YtfjbhccapgnkiaaW.PrintLast Go.Proofs.YtfjbhccapgnkiaaW.PrintMore
attribute [local go_sem] max2_int min2_int max_two min_two max_three min_three max_four min_four
set_option linter.unusedVariables false
set_option maxHeartbeats 16000000
set_option maxRecDepth 100000
set_option linter.unusedSimpArgs false
/-! ### whole_Add: function 29 -/
def whole_Add.j0 : Nat → Bool → Bool → List Int → Bool → List Int → Option (Bool × List Int × Int)
 | 0, _, _, _, _, _ => none
 | k + 1, x15, a0, a5, a1, a8 => if x15 = true then (some (false, ([] : List Int), 1)) else ((whole_wordsOf.f k a5).bind fun a6 => ((whole_wordsOf.f k a8).bind fun a7 => (if (a0 == a1) = true then ((whole_plus.f k a6 a7).bind fun a9 => ((whole_fits.f k a0 a9).bind fun a4 => (some (a4.1, a4.2.1, a4.2.2)))) else ((whole_order.f k a6 a7).bind fun aa => (if aa < 0 then ((whole_minus.f k a7 a6).bind fun ab => ((whole_fits.f k a1 ab).bind fun a3 => (some (a3.1, a3.2.1, a3.2.2)))) else ((whole_minus.f k a6 a7).bind fun ac => ((whole_fits.f k a0 ac).bind fun a2 => (some (a2.1, a2.2.1, a2.2.2)))))))))
def whole_Add.f (k : Nat) (a0 : Bool) (a1 : List Int) (a3 : Bool) (a2 : List Int) : Option (Bool × List Int × Int) := (whole_Right.f a0 a1).bind fun a5 => (if a5 = true then ((whole_Right.f a3 a2).bind fun a4 => (whole_Add.j0 k (!a4) a0 a1 a3 a2)) else (whole_Add.j0 k true a0 a1 a3 a2))
theorem whole_Add.mono_l : ∀ k, (∀ y0 y1 y2 y3 y4, LeO (whole_Add.j0 k y0 y1 y2 y3 y4) (whole_Add.j0 (k + 1) y0 y1 y2 y3 y4))
 | 0 => fun _ _ _ _ _ r h => by simp [whole_Add.j0] at h
 | k + 1 => by
  have a0 := whole_Add.mono_l k
  ·intro y0 y1 y2 y3 y4
   unfold whole_Add.j0
   repeat' first | with_reducible exact a0 _ _ _ _ _ | with_reducible exact whole_fits.mono _ _ _ | with_reducible exact whole_minus.mono _ _ _ | with_reducible exact whole_order.mono _ _ _ | with_reducible exact whole_plus.mono _ _ _ | with_reducible exact whole_wordsOf.mono _ _ | with_reducible exact LeO.refl _ | with_reducible exact LeO.none _ | with_reducible refine LeO.ite ?_ ?_ | with_reducible refine LeO.bind ?_ (fun _ => ?_) | exact a0 _ _ _ _ _ | exact whole_fits.mono _ _ _ | exact whole_minus.mono _ _ _ | exact whole_order.mono _ _ _ | exact whole_plus.mono _ _ _ | exact whole_wordsOf.mono _ _ | exact LeO.none _ | refine LeO.ite ?_ ?_ | refine LeO.bind ?_ (fun _ => ?_)
theorem whole_Add.mono : ∀ a0 a1 a2 a3 k, LeO (whole_Add.f k a0 a1 a2 a3) (whole_Add.f (k + 1) a0 a1 a2 a3) := by
 intro a0 a1 a2 a3 k
 have a4 := whole_Add.mono_l k
 unfold whole_Add.f
 repeat' first | with_reducible exact a4 _ _ _ _ _ | with_reducible exact whole_fits.mono _ _ _ | with_reducible exact whole_minus.mono _ _ _ | with_reducible exact whole_order.mono _ _ _ | with_reducible exact whole_plus.mono _ _ _ | with_reducible exact whole_wordsOf.mono _ _ | with_reducible exact LeO.refl _ | with_reducible exact LeO.none _ | with_reducible refine LeO.ite ?_ ?_ | with_reducible refine LeO.bind ?_ (fun _ => ?_) | exact a4 _ _ _ _ _ | exact whole_fits.mono _ _ _ | exact whole_minus.mono _ _ _ | exact whole_order.mono _ _ _ | exact whole_plus.mono _ _ _ | exact whole_wordsOf.mono _ _ | exact LeO.none _ | refine LeO.ite ?_ ?_ | refine LeO.bind ?_ (fun _ => ?_)
def whole_Add.T3 : Bool × List (List Nat × List Nat) := (true, [([], []), ([0], [0]), ([1], [1]), ([], []), ([3], [3]), ([4, 2], [4]), ([2, 5, 0, 1, 2], [2]), ([5, 6, 0, 1, 2, 3, 4, 5, 6], [5])])
def whole_Add.B3 : List Nat := [0, 1, 3, 0, 8, 31, 63, 127]
theorem whole_Add.tab3 : rtab .any (opsOf Try.f29 3) = whole_Add.T3 := by kernel_rfl
theorem whole_Add.bits3 : waitsOk whole_Add.T3.2 whole_Add.B3 = true := by kernel_rfl
def whole_Add.T5 : Bool × List (List Nat × List Nat) := (true, [([], []), ([0], [0]), ([], []), ([], []), ([2, 3], [2, 3]), ([1, 4, 4], [1, 4]), ([5], [5]), ([5], [5]), ([6, 5, 0, 1, 2, 3, 4, 5, 6, 7], [6]), ([7, 8, 0, 1, 2, 3, 4, 5, 6, 7, 8], [7])])
def whole_Add.B5 : List Nat := [0, 1, 0, 0, 12, 31, 63, 63, 255, 511]
theorem whole_Add.tab5 : rtab .any (opsOf Try.f29 5) = whole_Add.T5 := by kernel_rfl
theorem whole_Add.bits5 : waitsOk whole_Add.T5.2 whole_Add.B5 = true := by kernel_rfl
def whole_Add.T7 : Bool × List (List Nat × List Nat) := (true, [([], []), ([0], [0]), ([], []), ([], []), ([2, 3], [2, 3]), ([1, 4, 4], [1, 4]), ([5], [5]), ([5], [5]), ([6, 5, 0, 1, 2, 3, 4, 5, 6, 7], [6]), ([7, 8, 0, 1, 2, 3, 4, 5, 6, 7, 8], [7])])
def whole_Add.B7 : List Nat := [0, 1, 0, 0, 12, 31, 63, 63, 255, 511]
theorem whole_Add.tab7 : rtab .any (opsOf Try.f29 7) = whole_Add.T7 := by kernel_rfl
theorem whole_Add.bits7 : waitsOk whole_Add.T7.2 whole_Add.B7 = true := by kernel_rfl
def whole_Add.T8 : Bool × List (List Nat × List Nat) := (true, [([], []), ([0], [0]), ([], []), ([], []), ([2, 3], [2, 3]), ([1, 4, 4], [1, 4]), ([5], [5]), ([5], [5]), ([6, 5, 0, 1, 2, 3, 4, 5, 6, 7], [6]), ([7, 8, 0, 1, 2, 3, 4, 5, 6, 7, 8], [7])])
def whole_Add.B8 : List Nat := [0, 1, 0, 0, 12, 31, 63, 63, 255, 511]
theorem whole_Add.tab8 : rtab .any (opsOf Try.f29 8) = whole_Add.T8 := by kernel_rfl
theorem whole_Add.bits8 : waitsOk whole_Add.T8.2 whole_Add.B8 = true := by kernel_rfl
theorem whole_Add.calls (k : Nat) (a7 : Bool) (am : Option Addr) (al : Nat) (a9 : List Int) (ac : Bool) (an : Option Addr) (ao : Nat) (af : List Int) (r1 : Bool) (r2 : List Int) (r3 : Int) (w : World) (aT : Kd.C (Kd.int .u8) w am a9.length a9) (aP : a9.length ≤ al) (aO : Kd.C (Kd.int .u8) w an af.length af) (aU : af.length ≤ ao) (h : whole_Add.f k a7 a9 ac af = some (r1, r2, r3)) :
  Calls Try.prog 29 #[.agg #[.bool a7, .slice am a9.length al], .agg #[.bool ac, .slice an af.length ao]] w fun e w' => ∃ cN : Value, e = .returned (.tuple #[.agg #[.bool r1, cN], .int .i64 r3]) ∧ Kd.R (Kd.int .u8) 5 w' w.heap.size (fun _ => True) cN r2 ∧ Below w.heap.size w w' := by
 have hu25 := Try.underlying25
 have aw := Aside0.mk aT
 have ar := Aside0.mk aP
 clear aT aP
 have ax := Aside0.mk aO
 have ay := Aside0.mk aU
 clear aO aU
 have HB := Aside0.mk (Below.refl w.heap.size w)
 have H : ((whole_Right.f a7 a9).bind fun aV => (if aV = true then ((whole_Right.f ac af).bind fun aN => (whole_Add.j0 k (!aN) a7 a9 ac af)) else (whole_Add.j0 k true a7 a9 ac af))) = some (r1, r2, r3) := h
 clear h
 have cm := Aside0.mk H
 clear H
 go_enter Try.func29, Try.ntmps29
 go_upto_region 1 with (first | ((with_reducible refine gd 2 rfl ?_); refine bX 2 rfl HB #[.bool a7, .slice am a9.length al] 25 ?_; intro aa w4 a0 cG hg hb; replace HB := hB HB hb; clear hb hg) | ((with_reducible refine gd 3 rfl ?_); refine bX 3 rfl HB #[.bool ac, .slice an af.length ao] 25 ?_; intro ag w5 a1 cW hg hb; obtain ⟨ak, b0⟩ := nB a0 hg; replace a0 := kB a0 hb; replace HB := hB HB hb; clear hb hg) | ((with_reducible refine gd 4 rfl ?_); refine bX 4 rfl HB #[.bool false, .slice none 0 0] 25 ?_; intro ab w6 a2 cF hg hb; obtain ⟨a4, ae⟩ := nB a0 hg; obtain ⟨a6, ad⟩ := nB a1 hg; replace a0 := kB a0 hb; replace a1 := kB a1 hb; replace HB := hB HB hb; clear hb hg))
 (try simp only [Act.put, List.setIfInBounds_toArray, List.set_cons_zero, List.set_cons_succ])
 go_cut [15] (fun v15 wc => ∃ (kq : Nat) (aA : Bool), v15 = .bool aA ∧ Aside0 (whole_Add.j0 kq aA a7 a9 ac af = some (r1, r2, r3)) ∧ Aside0 (kq ≤ k) ∧ Aside0 (wc.heap[aa]? = some (.cells #[.bool a7, (.slice am a9.length al)] 25 (0, 0))) ∧ Aside0 (wc.heap[ag]? = some (.cells #[.bool ac, (.slice an af.length ao)] 25 (0, 0))) ∧ Aside0 (wc.heap[ab]? = some (.cells #[.bool false, (.slice none 0 0)] 25 (0, 0))) ∧ Aside0 (Below w.heap.size w wc))
 case first =>
  have H := cm.out
  clear cm
  obtain ⟨aV, A7, H⟩ := bs H
  by_cases c8 : aV = true
  ·subst c8
   replace H := ip H
   obtain ⟨aN, A9, H⟩ := bs H
   have H' := Aside0.mk H
   clear H
   have hn10 := nn ak
   have hn11 := nn a4
   have cT := zf2 a0
   go_wp2_with (first | ((with_reducible refine ga 39 rfl ?_); refine gc (some 9) Try.func39 #[.agg #[.bool a7, .slice am a9.length al]] (whole_Right.calls a7 _ _ a9 true _ (cb aw HB) ar.out A7.out) ?_; rintro e w13 ⟨rfl, hb⟩; refine ⟨_, rfl, ?_⟩; replace a0 := kB a0 hb; replace a1 := kB a1 hb; replace a2 := kB a2 hb; replace HB := hB HB hb; clear hb; have hn14 := nn a6; have cM := zf2 a1) | (go_at_call 39; (with_reducible refine (whole_Right.calls ac _ _ af aN _ ?side1 ?side2 A9.out).mono ?_); (case side1 => exact cb ax HB); (case side2 => exact ay.out); rintro e w16 ⟨rfl, hb⟩; replace a0 := kB a0 hb; replace a1 := kB a1 hb; replace a2 := kB a2 hb; replace HB := hB HB hb; clear hb))
   go_meet
   case rel => exact ⟨_, (!aN), sd, H', ⟨le_⟩, ⟨bk⟩, ⟨bk⟩, ⟨bk⟩, ⟨bw⟩⟩
  ·replace c8 := Bool.eq_false_iff.mpr c8
   subst c8
   replace H := iq H
   have H' := Aside0.mk H
   clear H
   have hn17 := nn ak
   have hn18 := nn a4
   have cO := zf2 a0
   go_wp2_with (first | ((with_reducible refine ga 39 rfl ?_); refine gc (some 9) Try.func39 #[.agg #[.bool a7, .slice am a9.length al]] (whole_Right.calls a7 _ _ a9 false _ (cb aw HB) ar.out A7.out) ?_; rintro e w20 ⟨rfl, hb⟩; refine ⟨_, rfl, ?_⟩; replace a0 := kB a0 hb; replace a1 := kB a1 hb; replace a2 := kB a2 hb; replace HB := hB HB hb; clear hb))
   go_meet
   case rel => exact ⟨_, (true), sd, H', ⟨le_⟩, ⟨bk⟩, ⟨bk⟩, ⟨bk⟩, ⟨bw⟩⟩
 case rest =>
  clear cm
  obtain ⟨kq, aA, rfl, HA, HJ2, a0, a1, a2, HB⟩ := hcut
  cases kq with
  | zero => exact absurd HA.out (by simp [whole_Add.j0])
  | succ kj2 =>
   have H := HA.out
   clear HA
   simp only [whole_Add.j0] at H
   by_cases bR : aA = true
   ·subst bR
    replace H := ip H
    simp only [Option.some.injEq, Prod.mk.injEq] at H
    obtain ⟨rfl, rfl, rfl⟩ := H
    have hn22 := nn ae
    have hn23 := nn ad
    have cX := zf2 a2
    go_wp2
    refine bodyPost_ret (results_ct rfl _ _ ab 25 #[.bool false, .slice none 0 0] (0, 0) _ rfl (bp a2) Try.underlying25 rfl (by kernel_rfl)) rfl ?_
    exact ⟨_, er, nl, bw⟩
   ·replace bR := Bool.eq_false_iff.mpr bR
    subst bR
    replace H := iq H
    obtain ⟨ah, cu, H⟩ := bs H
    obtain ⟨ai, ca, H⟩ := bs H
    by_cases aH : (a7 == ac) = true
    ·rw [if_pos aH] at H
     have bj : (a7 == ac) = true := aH
     (try (have b4 : decide (a7 = ac) = true := by simpa using aH))
     (try (have b6 : (a7 == ac) = true := by simpa using aH))
     clear aH
     obtain ⟨aW, A28, H⟩ := bs H
     obtain ⟨⟨b2, bg, cd⟩, A29, H⟩ := bs H
     simp only [Option.some.injEq, Prod.mk.injEq] at H
     obtain ⟨rfl, rfl, rfl⟩ := H
     try go_wp2
     replace a0 := Aside0.mk (blk_drew a0.out)
     replace a1 := Aside0.mk (blk_drew a1.out)
     replace a2 := Aside0.mk (blk_drew a2.out)
     replace HB := Aside0.mk (below_drew1 HB.out)
     refine st 8 (fun w' => w'.cell? ⟨aa, 0, none⟩ = some (.bool a7) ∧ w'.cell? ⟨aa, 1, none⟩ = some (.slice am a9.length al) ∧ w'.cell? ⟨ag, 0, none⟩ = some (.bool ac) ∧ w'.cell? ⟨ag, 1, none⟩ = some (.slice an af.length ao)) [] ⟨bc a0 0, bc a0 1, bc a1 0, bc a1 1⟩ (fun hHeld => ?_); refine with_tabW whole_Add.tab3 whole_Add.bits3 (fun a8 az => ?_)
     generalize wc.drew = w30 at a0 a1 a2 HB hHeld ⊢
     refine pu a8 0 (some 17) ?_
     refine pu a8 3 (some 20) ?_
     refine tk a8 az 1 (some 18) hHeld ?_
     refine tk a8 az 4 (some 21) hHeld ?_
     refine on a8 2 (some 19) fun K hK => ?_
     refine go_ Try.func75 #[.slice am a9.length al] ?_
     with_reducible refine (whole_wordsOf.calls kj2 (fun k_ => k_ < w.heap.size) _ _ a9 ah _ ?side1 cu.out).mono ?_
     (case side1 => exact Kd.V_mk ar.out (Kd.F_below (Kd.C_F (Kd.heap_int .u8) aw.out) bw))
     rintro e w31 ⟨bl, rfl, aj, hb⟩
     refine ⟨_, rfl, ?_⟩
     have a3 := rL HB (Kd.R_mono (ok' := fun k_ => True) aj (fun _ ap => trivial))
     replace a0 := kB a0 hb
     replace a1 := kB a1 hb
     replace a2 := kB a2 hb
     replace HB := hB HB hb
     clear hb aj
     refine hK.out _ _ ⟨bc a0 0, bc a0 1, bc a1 0, bc a1 1⟩ (fun hHeld => ?_)
     clear hK K
     refine nm (some 19) ?_
     refine on a8 5 (some 22) fun K hK => ?_
     refine go_ Try.func75 #[.slice an af.length ao] ?_
     with_reducible refine (whole_wordsOf.calls kj2 (fun k_ => k_ < w.heap.size) _ _ af ai _ ?side1 ca.out).mono ?_
     (case side1 => exact Kd.V_mk ay.out (Kd.F_below (Kd.C_F (Kd.heap_int .u8) ax.out) bw))
     rintro e w32 ⟨bi, rfl, aj, hb⟩
     refine ⟨_, rfl, ?_⟩
     have a5 := rL HB (Kd.R_new' (Kd.R_mono (ok' := fun k_ => True) aj (fun _ ap => trivial)) (Kd.R_lt (rb a3)))
     replace a3 := rE a3 aj hb
     replace a0 := kB a0 hb
     replace a1 := kB a1 hb
     replace a2 := kB a2 hb
     replace HB := hB HB hb
     clear hb aj
     refine hK.out _ _ ⟨bc a0 0, bc a0 1, bc a1 0, bc a1 1⟩ (fun hHeld => ?_)
     clear hK K
     refine nm (some 22) ?_
     refine pu a8 6 (some 6) ?_
     refine pu a8 7 (some 7) ?_
     refine dn a8 ?_
     have hn33 := nn ak
     have hn34 := nn a4
     have cR := zf2 a0
     have hn36 := nn a6
     have cJ := zf2 a1
     try go_wp2
     replace a3 := Aside0.mk (Kd.R_drew a3.out)
     replace a5 := Aside0.mk (Kd.R_drew a5.out)
     replace a0 := Aside0.mk (blk_drew a0.out)
     replace a1 := Aside0.mk (blk_drew a1.out)
     replace a2 := Aside0.mk (blk_drew a2.out)
     replace HB := Aside0.mk (below_drew1 HB.out)
     obtain ⟨b8, bo, cj⟩ := sl a3; cases cj
     obtain ⟨bf, b9, cB⟩ := sl a5; cases cB
     refine st 10 (fun w' => w'.cell? ⟨aa, 0, none⟩ = some (.bool a7) ∧ w'.cell? ⟨aa, 1, none⟩ = some (.slice am a9.length al)) [] ⟨bc a0 0, bc a0 1⟩ (fun hHeld => ?_); refine with_tabW whole_Add.tab5 whole_Add.bits5 (fun a8 az => ?_)
     generalize w32.drew = w38 at a3 a5 a0 a1 a2 HB hHeld ⊢
     refine pu a8 0 (some 29) ?_
     refine pu a8 2 (some 31) ?_
     refine pu a8 3 (some 32) ?_
     refine tk a8 az 1 (some 30) hHeld ?_
     refine on a8 4 (some 33) fun K hK => ?_
     refine go_ Try.func80 #[.slice b8 ah.length bo, .slice bf ai.length b9] ?_
     with_reducible refine (whole_plus.calls kj2 _ _ ah _ _ ai aW _ ?side1 ?side2 ?side3 ?side4 A28.out).mono ?_
     (case side1 => exact cr a3)
     (case side2 => exact rl a3)
     (case side3 => exact cr a5)
     (case side4 => exact rl a5)
     rintro e w41 ⟨v574, rfl, aj, hb⟩
     refine ⟨_, rfl, ?_⟩
     have au := Aside0.mk (Kd.V_lower (Kd.V_mono (ok' := fun k_ => some k_ ≠ (.slice b8 ah.length bo : Value).ownBlock ∧ some k_ ≠ (.slice bf ai.length b9 : Value).ownBlock ∧ k_ ≠ aa ∧ k_ ≠ ag ∧ k_ ≠ ab) aj (fun k_ ap => ⟨(Kd.fresh' (Kd.R_lt (rb a3)) k_ ap), (Kd.fresh' (Kd.R_lt (rb a5)) k_ ap), (Kd.freshB (g := aa) (o := .cells #[.bool a7, .slice am a9.length al] 25 (0, 0)) bk k_ ap), (Kd.freshB (g := ag) (o := .cells #[.bool ac, .slice an af.length ao] 25 (0, 0)) bk k_ ap), (Kd.freshB (g := ab) (o := .cells #[.bool false, .slice none 0 0] 25 (0, 0)) bk k_ ap)⟩)) (sz HB))
     replace a3 := rB a3 hb
     replace a5 := rB a5 hb
     replace a0 := kB a0 hb
     replace a1 := kB a1 hb
     replace a2 := kB a2 hb
     replace HB := hB HB hb
     clear hb aj
     obtain ⟨bZ, cx, bW⟩ := vl au; cases bW
     refine hK.out _ _ ⟨bc a0 0, bc a0 1⟩ (fun hHeld => ?_)
     clear hK K
     refine nm (some 33) ?_
     refine on a8 5 (some 34) fun K hK => ?_
     refine go_ Try.func73 #[.bool a7, .slice bZ aW.length cx] ?_
     with_reducible refine (whole_fits.calls kj2 a7 _ _ aW b2 bg cd _ ?side1 ?side2 A29.out).mono ?_
     (case side1 => exact cv au)
     (case side2 => exact (Kd.V_reads' au.out).2.1)
     rintro e cK ⟨v578, rfl, aj, hb⟩
     refine ⟨_, rfl, ?_⟩
     have aR := rL HB aj
     replace a3 := rB a3 hb
     replace a5 := rB a5 hb
     replace au := vE au aj hb
     replace a0 := kB a0 hb
     replace a1 := kB a1 hb
     replace a2 := kB a2 hb
     replace HB := hB HB hb
     clear hb aj
     obtain ⟨cy, ch, cl⟩ := sl aR; cases cl
     refine hK.out _ _ ⟨bc a0 0, bc a0 1⟩ (fun hHeld => ?_)
     clear hK K
     refine nm (some 34) ?_
     refine pu a8 6 (some 35) ?_
     refine pu a8 7 (some 36) ?_
     refine on a8 8 none fun K hK => ?_
     have hs44 : cK.cell? ⟨ab, 0, none⟩ = some (.bool false) := bc a2 0
     have d0 := blk_frozen a2.out 0
     have bB := a4.out
     have bM := a6.out
     have bQ := ae.out
     have bJ := ad.out
     have hs46 : cK.cell? ⟨ab, 1, none⟩ = some (.slice none 0 0) := bc a2 1
     have cY := blk_frozen a2.out 1
     have bN := a4.out
     have bz := a6.out
     have bH := ae.out
     have bO := ad.out
     refine skip_ (w1 := ?_) (by rfl) rfl ?_ ?_
     rotate_left
     ·go_simp
      rfl
     refine hK.out _ _ ⟨(cf a4 (cf a4 hHeld.1)), (cf a4 (cf a4 hHeld.2))⟩ (fun hHeld => ?_)
     clear hK K
     refine pu a8 9 (some 5) ?_
     refine dn a8 ?_
     try go_wp2
     refine bodyPost_ret (results_ct rfl _ _ ab 25 #[.bool b2, .slice cy bg.length ch] (0, 0) _ rfl (bp a2) Try.underlying25 rfl (by kernel_rfl)) rfl ?_
     exact ⟨_, er, rf (rt aR a2), bw⟩
    ·rw [if_neg aH] at H
     have bj : (a7 == ac) = false := by simpa using aH
     (try (have b4 : decide (a7 = ac) = false := by simpa using aH))
     (try (have b6 : (a7 == ac) = false := by simpa using aH))
     (try (have cP : ¬ (a7 = ac) := by simpa using aH))
     clear aH
     obtain ⟨aE, cQ, H⟩ := bs H
     by_cases aZ : aE < 0
     ·rw [if_pos aZ] at H
      have bd : decide (aE < 0) = true := decide_eq_true aZ
      clear aZ
      obtain ⟨aX, A49, H⟩ := bs H
      obtain ⟨⟨bb, b7, ct⟩, A50, H⟩ := bs H
      simp only [Option.some.injEq, Prod.mk.injEq] at H
      obtain ⟨rfl, rfl, rfl⟩ := H
      try go_wp2
      replace a0 := Aside0.mk (blk_drew a0.out)
      replace a1 := Aside0.mk (blk_drew a1.out)
      replace a2 := Aside0.mk (blk_drew a2.out)
      replace HB := Aside0.mk (below_drew1 HB.out)
      refine st 8 (fun w' => w'.cell? ⟨aa, 0, none⟩ = some (.bool a7) ∧ w'.cell? ⟨aa, 1, none⟩ = some (.slice am a9.length al) ∧ w'.cell? ⟨ag, 0, none⟩ = some (.bool ac) ∧ w'.cell? ⟨ag, 1, none⟩ = some (.slice an af.length ao)) [] ⟨bc a0 0, bc a0 1, bc a1 0, bc a1 1⟩ (fun hHeld => ?_); refine with_tabW whole_Add.tab3 whole_Add.bits3 (fun a8 az => ?_)
      generalize wc.drew = w51 at a0 a1 a2 HB hHeld ⊢
      refine pu a8 0 (some 17) ?_
      refine pu a8 3 (some 20) ?_
      refine tk a8 az 1 (some 18) hHeld ?_
      refine tk a8 az 4 (some 21) hHeld ?_
      refine on a8 2 (some 19) fun K hK => ?_
      refine go_ Try.func75 #[.slice am a9.length al] ?_
      with_reducible refine (whole_wordsOf.calls kj2 (fun k_ => k_ < w.heap.size) _ _ a9 ah _ ?side1 cu.out).mono ?_
      (case side1 => exact Kd.V_mk ar.out (Kd.F_below (Kd.C_F (Kd.heap_int .u8) aw.out) bw))
      rintro e w52 ⟨bl, rfl, aj, hb⟩
      refine ⟨_, rfl, ?_⟩
      have a3 := rL HB (Kd.R_mono (ok' := fun k_ => True) aj (fun _ ap => trivial))
      replace a0 := kB a0 hb
      replace a1 := kB a1 hb
      replace a2 := kB a2 hb
      replace HB := hB HB hb
      clear hb aj
      refine hK.out _ _ ⟨bc a0 0, bc a0 1, bc a1 0, bc a1 1⟩ (fun hHeld => ?_)
      clear hK K
      refine nm (some 19) ?_
      refine on a8 5 (some 22) fun K hK => ?_
      refine go_ Try.func75 #[.slice an af.length ao] ?_
      with_reducible refine (whole_wordsOf.calls kj2 (fun k_ => k_ < w.heap.size) _ _ af ai _ ?side1 ca.out).mono ?_
      (case side1 => exact Kd.V_mk ay.out (Kd.F_below (Kd.C_F (Kd.heap_int .u8) ax.out) bw))
      rintro e aL ⟨bi, rfl, aj, hb⟩
      refine ⟨_, rfl, ?_⟩
      have a5 := rL HB (Kd.R_new' (Kd.R_mono (ok' := fun k_ => True) aj (fun _ ap => trivial)) (Kd.R_lt (rb a3)))
      replace a3 := rE a3 aj hb
      replace a0 := kB a0 hb
      replace a1 := kB a1 hb
      replace a2 := kB a2 hb
      replace HB := hB HB hb
      clear hb aj
      refine hK.out _ _ ⟨bc a0 0, bc a0 1, bc a1 0, bc a1 1⟩ (fun hHeld => ?_)
      clear hK K
      refine nm (some 22) ?_
      refine pu a8 6 (some 6) ?_
      refine pu a8 7 (some 7) ?_
      refine dn a8 ?_
      have hn54 := nn ak
      have hn55 := nn a4
      have cS := zf2 a0
      have hn57 := nn a6
      have cI := zf2 a1
      obtain ⟨aB, aD, ce⟩ := sl a3; cases ce
      obtain ⟨aC, aF, cw⟩ := sl a5; cases cw
      try go_wp2_with (first | ((with_reducible refine ga 81 rfl ?_); refine gc (some 40) Try.func81 #[.slice aB ah.length aD, .slice aC ai.length aF] (whole_order.calls kj2 _ _ ah _ _ ai aE _ (cr a3) (rl a3) (cr a5) (rl a5) cQ.out) ?_; rintro e w' ⟨rfl, ⟨nd, rfl⟩⟩; refine ⟨_, rfl, ?_⟩; (try (rw [drewN_self aL]; generalize hq_ : World.drewN aL _ = aL; have be : Aside0 (Kd.R (Kd.int .u32) 118 aL w.heap.size (fun k_ => some k_ ≠ (.slice aC ai.length aF : Value).ownBlock) (.slice aB ah.length aD) ah) := ⟨by rw [← hq_]; exact (by (with_reducible repeat (first | apply Kd.R_alloc | apply Kd.R_drewN | apply Kd.R_drew)); exact Kd.R_mono a3.out (fun _ hk => hk.2))⟩; have bm : Aside0 (Kd.R (Kd.int .u32) 118 aL w.heap.size (fun k_ => some k_ ≠ (.slice aB ah.length aD : Value).ownBlock) (.slice aC ai.length aF) ai) := ⟨by rw [← hq_]; exact (by (with_reducible repeat (first | apply Kd.R_alloc | apply Kd.R_drewN | apply Kd.R_drew)); exact Kd.R_mono a5.out (fun _ hk => hk.2))⟩; have bh : Aside0 (aL.heap[aa]? = some (.cells #[.bool a7, .slice am a9.length al] 25 (0, 0))) := ⟨by rw [← hq_]; exact bk⟩; have bn : Aside0 (aL.heap[ag]? = some (.cells #[.bool ac, .slice an af.length ao] 25 (0, 0))) := ⟨by rw [← hq_]; exact bk⟩; have ba : Aside0 (aL.heap[ab]? = some (.cells #[.bool false, .slice none 0 0] 25 (0, 0))) := ⟨by rw [← hq_]; exact bk⟩; have b1 : Aside0 (Below w.heap.size w aL) := ⟨by rw [← hq_]; exact bw⟩; clear a3 a5 a0 a1 a2 HB hq_; have a3 := be; have a5 := bm; have a0 := bh; have a1 := bn; have a2 := ba; have HB := b1; clear be bm bh bn ba b1))))
      replace a3 := Aside0.mk (Kd.R_drew a3.out)
      replace a5 := Aside0.mk (Kd.R_drew a5.out)
      replace a0 := Aside0.mk (blk_drew a0.out)
      replace a1 := Aside0.mk (blk_drew a1.out)
      replace a2 := Aside0.mk (blk_drew a2.out)
      replace HB := Aside0.mk (below_drew1 HB.out)
      refine st 10 (fun w' => w'.cell? ⟨ag, 0, none⟩ = some (.bool ac) ∧ w'.cell? ⟨ag, 1, none⟩ = some (.slice an af.length ao)) [] ⟨bc a1 0, bc a1 1⟩ (fun hHeld => ?_); refine with_tabW whole_Add.tab7 whole_Add.bits7 (fun a8 az => ?_)
      generalize aL.drew = w61 at a3 a5 a0 a1 a2 HB hHeld ⊢
      refine pu a8 0 (some 42) ?_
      refine pu a8 2 (some 44) ?_
      refine pu a8 3 (some 45) ?_
      refine tk a8 az 1 (some 43) hHeld ?_
      refine on a8 4 (some 46) fun K hK => ?_
      refine go_ Try.func82 #[.slice aC ai.length aF, .slice aB ah.length aD] ?_
      with_reducible refine (whole_minus.calls kj2 _ _ ai _ _ ah aX _ ?side1 ?side2 ?side3 ?side4 A49.out).mono ?_
      (case side1 => exact cr a5)
      (case side2 => exact rl a5)
      (case side3 => exact cr a3)
      (case side4 => exact rl a3)
      rintro e w62 ⟨v583, rfl, aj, hb⟩
      refine ⟨_, rfl, ?_⟩
      have av := Aside0.mk (Kd.V_lower (Kd.V_mono (ok' := fun k_ => some k_ ≠ (.slice aB ah.length aD : Value).ownBlock ∧ some k_ ≠ (.slice aC ai.length aF : Value).ownBlock ∧ k_ ≠ aa ∧ k_ ≠ ag ∧ k_ ≠ ab) aj (fun k_ ap => ⟨(Kd.fresh' (Kd.R_lt (rb a3)) k_ ap), (Kd.fresh' (Kd.R_lt (rb a5)) k_ ap), (Kd.freshB (g := aa) (o := .cells #[.bool a7, .slice am a9.length al] 25 (0, 0)) bk k_ ap), (Kd.freshB (g := ag) (o := .cells #[.bool ac, .slice an af.length ao] 25 (0, 0)) bk k_ ap), (Kd.freshB (g := ab) (o := .cells #[.bool false, .slice none 0 0] 25 (0, 0)) bk k_ ap)⟩)) (sz HB))
      replace a3 := rB a3 hb
      replace a5 := rB a5 hb
      replace a0 := kB a0 hb
      replace a1 := kB a1 hb
      replace a2 := kB a2 hb
      replace HB := hB HB hb
      clear hb aj
      obtain ⟨cD, cC, ci⟩ := vl av; cases ci
      refine hK.out _ _ ⟨bc a1 0, bc a1 1⟩ (fun hHeld => ?_)
      clear hK K
      refine nm (some 46) ?_
      refine on a8 5 (some 47) fun K hK => ?_
      refine go_ Try.func73 #[.bool ac, .slice cD aX.length cC] ?_
      with_reducible refine (whole_fits.calls kj2 ac _ _ aX bb b7 ct _ ?side1 ?side2 A50.out).mono ?_
      (case side1 => exact cv av)
      (case side2 => exact (Kd.V_reads' av.out).2.1)
      rintro e w64 ⟨v587, rfl, aj, hb⟩
      refine ⟨_, rfl, ?_⟩
      have aQ := rL HB aj
      replace a3 := rB a3 hb
      replace a5 := rB a5 hb
      replace av := vE av aj hb
      replace a0 := kB a0 hb
      replace a1 := kB a1 hb
      replace a2 := kB a2 hb
      replace HB := hB HB hb
      clear hb aj
      obtain ⟨cq, cA, cg⟩ := sl aQ; cases cg
      refine hK.out _ _ ⟨bc a1 0, bc a1 1⟩ (fun hHeld => ?_)
      clear hK K
      refine nm (some 47) ?_
      refine pu a8 6 (some 48) ?_
      refine pu a8 7 (some 49) ?_
      refine on a8 8 none fun K hK => ?_
      have hs65 : w64.cell? ⟨ab, 0, none⟩ = some (.bool false) := bc a2 0
      have cV := blk_frozen a2.out 0
      have bC := a4.out
      have bT := a6.out
      have bx := ae.out
      have bA := ad.out
      have hs67 : w64.cell? ⟨ab, 1, none⟩ = some (.slice none 0 0) := bc a2 1
      have cZ := blk_frozen a2.out 1
      have bL := a4.out
      have bU := a6.out
      have bV := ae.out
      have bu := ad.out
      refine skip_ (w1 := ?_) (by rfl) rfl ?_ ?_
      rotate_left
      ·go_simp
       rfl
      refine hK.out _ _ ⟨(cf a6 (cf a6 hHeld.1)), (cf a6 (cf a6 hHeld.2))⟩ (fun hHeld => ?_)
      clear hK K
      refine pu a8 9 (some 5) ?_
      refine dn a8 ?_
      try go_wp2
      refine bodyPost_ret (results_ct rfl _ _ ab 25 #[.bool bb, .slice cq b7.length cA] (0, 0) _ rfl (bp a2) Try.underlying25 rfl (by kernel_rfl)) rfl ?_
      exact ⟨_, er, rf (rt aQ a2), bw⟩
     ·rw [if_neg aZ] at H
      have bd : decide (aE < 0) = false := decide_eq_false aZ
      clear aZ
      obtain ⟨aY, A68, H⟩ := bs H
      obtain ⟨⟨b3, b5, cp⟩, A69, H⟩ := bs H
      simp only [Option.some.injEq, Prod.mk.injEq] at H
      obtain ⟨rfl, rfl, rfl⟩ := H
      try go_wp2
      replace a0 := Aside0.mk (blk_drew a0.out)
      replace a1 := Aside0.mk (blk_drew a1.out)
      replace a2 := Aside0.mk (blk_drew a2.out)
      replace HB := Aside0.mk (below_drew1 HB.out)
      refine st 8 (fun w' => w'.cell? ⟨aa, 0, none⟩ = some (.bool a7) ∧ w'.cell? ⟨aa, 1, none⟩ = some (.slice am a9.length al) ∧ w'.cell? ⟨ag, 0, none⟩ = some (.bool ac) ∧ w'.cell? ⟨ag, 1, none⟩ = some (.slice an af.length ao)) [] ⟨bc a0 0, bc a0 1, bc a1 0, bc a1 1⟩ (fun hHeld => ?_); refine with_tabW whole_Add.tab3 whole_Add.bits3 (fun a8 az => ?_)
      generalize wc.drew = w70 at a0 a1 a2 HB hHeld ⊢
      refine pu a8 0 (some 17) ?_
      refine pu a8 3 (some 20) ?_
      refine tk a8 az 1 (some 18) hHeld ?_
      refine tk a8 az 4 (some 21) hHeld ?_
      refine on a8 2 (some 19) fun K hK => ?_
      refine go_ Try.func75 #[.slice am a9.length al] ?_
      with_reducible refine (whole_wordsOf.calls kj2 (fun k_ => k_ < w.heap.size) _ _ a9 ah _ ?side1 cu.out).mono ?_
      (case side1 => exact Kd.V_mk ar.out (Kd.F_below (Kd.C_F (Kd.heap_int .u8) aw.out) bw))
      rintro e w71 ⟨bl, rfl, aj, hb⟩
      refine ⟨_, rfl, ?_⟩
      have a3 := rL HB (Kd.R_mono (ok' := fun k_ => True) aj (fun _ ap => trivial))
      replace a0 := kB a0 hb
      replace a1 := kB a1 hb
      replace a2 := kB a2 hb
      replace HB := hB HB hb
      clear hb aj
      refine hK.out _ _ ⟨bc a0 0, bc a0 1, bc a1 0, bc a1 1⟩ (fun hHeld => ?_)
      clear hK K
      refine nm (some 19) ?_
      refine on a8 5 (some 22) fun K hK => ?_
      refine go_ Try.func75 #[.slice an af.length ao] ?_
      with_reducible refine (whole_wordsOf.calls kj2 (fun k_ => k_ < w.heap.size) _ _ af ai _ ?side1 ca.out).mono ?_
      (case side1 => exact Kd.V_mk ay.out (Kd.F_below (Kd.C_F (Kd.heap_int .u8) ax.out) bw))
      rintro e aM ⟨bi, rfl, aj, hb⟩
      refine ⟨_, rfl, ?_⟩
      have a5 := rL HB (Kd.R_new' (Kd.R_mono (ok' := fun k_ => True) aj (fun _ ap => trivial)) (Kd.R_lt (rb a3)))
      replace a3 := rE a3 aj hb
      replace a0 := kB a0 hb
      replace a1 := kB a1 hb
      replace a2 := kB a2 hb
      replace HB := hB HB hb
      clear hb aj
      refine hK.out _ _ ⟨bc a0 0, bc a0 1, bc a1 0, bc a1 1⟩ (fun hHeld => ?_)
      clear hK K
      refine nm (some 22) ?_
      refine pu a8 6 (some 6) ?_
      refine pu a8 7 (some 7) ?_
      refine dn a8 ?_
      have hn73 := nn ak
      have hn74 := nn a4
      have d1 := zf2 a0
      have hn76 := nn a6
      have cH := zf2 a1
      obtain ⟨aJ, aG, cc⟩ := sl a3; cases cc
      obtain ⟨aI, aK, cs⟩ := sl a5; cases cs
      try go_wp2_with (first | ((with_reducible refine ga 81 rfl ?_); refine gc (some 40) Try.func81 #[.slice aJ ah.length aG, .slice aI ai.length aK] (whole_order.calls kj2 _ _ ah _ _ ai aE _ (cr a3) (rl a3) (cr a5) (rl a5) cQ.out) ?_; rintro e w' ⟨rfl, ⟨nd, rfl⟩⟩; refine ⟨_, rfl, ?_⟩; (try (rw [drewN_self aM]; generalize hq_ : World.drewN aM _ = aM; have be : Aside0 (Kd.R (Kd.int .u32) 118 aM w.heap.size (fun k_ => some k_ ≠ (.slice aI ai.length aK : Value).ownBlock) (.slice aJ ah.length aG) ah) := ⟨by rw [← hq_]; exact (by (with_reducible repeat (first | apply Kd.R_alloc | apply Kd.R_drewN | apply Kd.R_drew)); exact Kd.R_mono a3.out (fun _ hk => hk.2))⟩; have bm : Aside0 (Kd.R (Kd.int .u32) 118 aM w.heap.size (fun k_ => some k_ ≠ (.slice aJ ah.length aG : Value).ownBlock) (.slice aI ai.length aK) ai) := ⟨by rw [← hq_]; exact (by (with_reducible repeat (first | apply Kd.R_alloc | apply Kd.R_drewN | apply Kd.R_drew)); exact Kd.R_mono a5.out (fun _ hk => hk.2))⟩; have bh : Aside0 (aM.heap[aa]? = some (.cells #[.bool a7, .slice am a9.length al] 25 (0, 0))) := ⟨by rw [← hq_]; exact bk⟩; have bn : Aside0 (aM.heap[ag]? = some (.cells #[.bool ac, .slice an af.length ao] 25 (0, 0))) := ⟨by rw [← hq_]; exact bk⟩; have ba : Aside0 (aM.heap[ab]? = some (.cells #[.bool false, .slice none 0 0] 25 (0, 0))) := ⟨by rw [← hq_]; exact bk⟩; have b1 : Aside0 (Below w.heap.size w aM) := ⟨by rw [← hq_]; exact bw⟩; clear a3 a5 a0 a1 a2 HB hq_; have a3 := be; have a5 := bm; have a0 := bh; have a1 := bn; have a2 := ba; have HB := b1; clear be bm bh bn ba b1))))
      replace a3 := Aside0.mk (Kd.R_drew a3.out)
      replace a5 := Aside0.mk (Kd.R_drew a5.out)
      replace a0 := Aside0.mk (blk_drew a0.out)
      replace a1 := Aside0.mk (blk_drew a1.out)
      replace a2 := Aside0.mk (blk_drew a2.out)
      replace HB := Aside0.mk (below_drew1 HB.out)
      refine st 10 (fun w' => w'.cell? ⟨aa, 0, none⟩ = some (.bool a7) ∧ w'.cell? ⟨aa, 1, none⟩ = some (.slice am a9.length al)) [] ⟨bc a0 0, bc a0 1⟩ (fun hHeld => ?_); refine with_tabW whole_Add.tab8 whole_Add.bits8 (fun a8 az => ?_)
      generalize aM.drew = w80 at a3 a5 a0 a1 a2 HB hHeld ⊢
      refine pu a8 0 (some 50) ?_
      refine pu a8 2 (some 52) ?_
      refine pu a8 3 (some 53) ?_
      refine tk a8 az 1 (some 51) hHeld ?_
      refine on a8 4 (some 54) fun K hK => ?_
      refine go_ Try.func82 #[.slice aJ ah.length aG, .slice aI ai.length aK] ?_
      with_reducible refine (whole_minus.calls kj2 _ _ ah _ _ ai aY _ ?side1 ?side2 ?side3 ?side4 A68.out).mono ?_
      (case side1 => exact cr a3)
      (case side2 => exact rl a3)
      (case side3 => exact cr a5)
      (case side4 => exact rl a5)
      rintro e w81 ⟨v591, rfl, aj, hb⟩
      refine ⟨_, rfl, ?_⟩
      have aq := Aside0.mk (Kd.V_lower (Kd.V_mono (ok' := fun k_ => some k_ ≠ (.slice aJ ah.length aG : Value).ownBlock ∧ some k_ ≠ (.slice aI ai.length aK : Value).ownBlock ∧ k_ ≠ aa ∧ k_ ≠ ag ∧ k_ ≠ ab) aj (fun k_ ap => ⟨(Kd.fresh' (Kd.R_lt (rb a3)) k_ ap), (Kd.fresh' (Kd.R_lt (rb a5)) k_ ap), (Kd.freshB (g := aa) (o := .cells #[.bool a7, .slice am a9.length al] 25 (0, 0)) bk k_ ap), (Kd.freshB (g := ag) (o := .cells #[.bool ac, .slice an af.length ao] 25 (0, 0)) bk k_ ap), (Kd.freshB (g := ab) (o := .cells #[.bool false, .slice none 0 0] 25 (0, 0)) bk k_ ap)⟩)) (sz HB))
      replace a3 := rB a3 hb
      replace a5 := rB a5 hb
      replace a0 := kB a0 hb
      replace a1 := kB a1 hb
      replace a2 := kB a2 hb
      replace HB := hB HB hb
      clear hb aj
      obtain ⟨c0, cn, co⟩ := vl aq; cases co
      refine hK.out _ _ ⟨bc a0 0, bc a0 1⟩ (fun hHeld => ?_)
      clear hK K
      refine nm (some 54) ?_
      refine on a8 5 (some 55) fun K hK => ?_
      refine go_ Try.func73 #[.bool a7, .slice c0 aY.length cn] ?_
      with_reducible refine (whole_fits.calls kj2 a7 _ _ aY b3 b5 cp _ ?side1 ?side2 A69.out).mono ?_
      (case side1 => exact cv aq)
      (case side2 => exact (Kd.V_reads' aq.out).2.1)
      rintro e cE ⟨v595, rfl, aj, hb⟩
      refine ⟨_, rfl, ?_⟩
      have aS := rL HB aj
      replace a3 := rB a3 hb
      replace a5 := rB a5 hb
      replace aq := vE aq aj hb
      replace a0 := kB a0 hb
      replace a1 := kB a1 hb
      replace a2 := kB a2 hb
      replace HB := hB HB hb
      clear hb aj
      obtain ⟨cz, c1, ck⟩ := sl aS; cases ck
      refine hK.out _ _ ⟨bc a0 0, bc a0 1⟩ (fun hHeld => ?_)
      clear hK K
      refine nm (some 55) ?_
      refine pu a8 6 (some 56) ?_
      refine pu a8 7 (some 57) ?_
      refine on a8 8 none fun K hK => ?_
      have hs84 : cE.cell? ⟨ab, 0, none⟩ = some (.bool false) := bc a2 0
      have cL := blk_frozen a2.out 0
      have bv := a4.out
      have bK := a6.out
      have bF := ae.out
      have bD := ad.out
      have hs86 : cE.cell? ⟨ab, 1, none⟩ = some (.slice none 0 0) := bc a2 1
      have cU := blk_frozen a2.out 1
      have bP := a4.out
      have bG := a6.out
      have bq := ae.out
      have br := ad.out
      refine skip_ (w1 := ?_) (by rfl) rfl ?_ ?_
      rotate_left
      ·go_simp
       rfl
      refine hK.out _ _ ⟨(cf a4 (cf a4 hHeld.1)), (cf a4 (cf a4 hHeld.2))⟩ (fun hHeld => ?_)
      clear hK K
      refine pu a8 9 (some 5) ?_
      refine dn a8 ?_
      try go_wp2
      refine bodyPost_ret (results_ct rfl _ _ ab 25 #[.bool b3, .slice cz b5.length c1] (0, 0) _ rfl (bp a2) Try.underlying25 rfl (by kernel_rfl)) rfl ?_
      exact ⟨_, er, rf (rt aS a2), bw⟩
end Go.Proofs.Ytfjbhccapgnkiaa.P
