import Derived.Test.YtfjbhccapgnkiaaC4t
import Derived.Test.YtfjbhccapgnkiaaC1b
namespace Go.Proofs.Ytfjbhccapgnkiaa.P
open Go.RowKit Go.Proofs.YtfjbhccapgnkiaaW.PrintWords Go.Proofs.YtfjbhccapgnkiaaW.PrintLast Go.Proofs.YtfjbhccapgnkiaaW.PrintMore
attribute [local go_sem] max2_int min2_int max_two min_two max_three min_three max_four min_four
set_option linter.unusedVariables false
set_option maxHeartbeats 16000000
set_option maxRecDepth 100000
set_option linter.unusedSimpArgs false
/-! ### lapidaryref02_Add: function 30 -/
def lapidaryref02_Add.j0 : Nat → Bool → Bool → List Int → Bool → List Int → Option (Bool × List Int × Int)
 | 0, _, _, _, _, _ => none
 | k + 1, x13, a2, a0, a3, a1 => if x13 = true then (some (false, ([] : List Int), 1)) else (if (a2 == a3) = true then ((lapidaryref02_sum.f k a0 a1).bind fun aa => ((lapidaryref02_fits.f a2 aa).bind fun a6 => (some (a6.1, a6.2.1, a6.2.2)))) else ((lapidaryref02_cmp.f k a0 a1).bind fun a7 => (if a7 ≥ 0 then ((lapidaryref02_less.f k a0 a1).bind fun a9 => ((lapidaryref02_fits.f a2 a9).bind fun a4 => (some (a4.1, a4.2.1, a4.2.2)))) else ((lapidaryref02_less.f k a1 a0).bind fun a8 => ((lapidaryref02_fits.f a3 a8).bind fun a5 => (some (a5.1, a5.2.1, a5.2.2)))))))
def lapidaryref02_Add.f (k : Nat) (a0 : Bool) (a1 : List Int) (a3 : Bool) (a2 : List Int) : Option (Bool × List Int × Int) := (lapidaryref02_Right.f a0 a1).bind fun a5 => (if a5 = true then ((lapidaryref02_Right.f a3 a2).bind fun a4 => (lapidaryref02_Add.j0 k (!a4) a0 a1 a3 a2)) else (lapidaryref02_Add.j0 k true a0 a1 a3 a2))
theorem lapidaryref02_Add.mono_l : ∀ k, (∀ y0 y1 y2 y3 y4, LeO (lapidaryref02_Add.j0 k y0 y1 y2 y3 y4) (lapidaryref02_Add.j0 (k + 1) y0 y1 y2 y3 y4))
 | 0 => fun _ _ _ _ _ r h => by simp [lapidaryref02_Add.j0] at h
 | k + 1 => by
  have a0 := lapidaryref02_Add.mono_l k
  ·intro y0 y1 y2 y3 y4
   unfold lapidaryref02_Add.j0
   repeat' first | with_reducible exact a0 _ _ _ _ _ | with_reducible exact lapidaryref02_cmp.mono _ _ _ | with_reducible exact lapidaryref02_less.mono _ _ _ | with_reducible exact lapidaryref02_sum.mono _ _ _ | with_reducible exact LeO.refl _ | with_reducible exact LeO.none _ | with_reducible refine LeO.ite ?_ ?_ | with_reducible refine LeO.bind ?_ (fun _ => ?_) | exact a0 _ _ _ _ _ | exact lapidaryref02_cmp.mono _ _ _ | exact lapidaryref02_less.mono _ _ _ | exact lapidaryref02_sum.mono _ _ _ | exact LeO.none _ | refine LeO.ite ?_ ?_ | refine LeO.bind ?_ (fun _ => ?_)
theorem lapidaryref02_Add.mono : ∀ a0 a1 a2 a3 k, LeO (lapidaryref02_Add.f k a0 a1 a2 a3) (lapidaryref02_Add.f (k + 1) a0 a1 a2 a3) := by
 intro a0 a1 a2 a3 k
 have a4 := lapidaryref02_Add.mono_l k
 unfold lapidaryref02_Add.f
 repeat' first | with_reducible exact a4 _ _ _ _ _ | with_reducible exact lapidaryref02_cmp.mono _ _ _ | with_reducible exact lapidaryref02_less.mono _ _ _ | with_reducible exact lapidaryref02_sum.mono _ _ _ | with_reducible exact LeO.refl _ | with_reducible exact LeO.none _ | with_reducible refine LeO.ite ?_ ?_ | with_reducible refine LeO.bind ?_ (fun _ => ?_) | exact a4 _ _ _ _ _ | exact lapidaryref02_cmp.mono _ _ _ | exact lapidaryref02_less.mono _ _ _ | exact lapidaryref02_sum.mono _ _ _ | exact LeO.none _ | refine LeO.ite ?_ ?_ | refine LeO.bind ?_ (fun _ => ?_)
def lapidaryref02_Add.T4 : Bool × List (List Nat × List Nat) := (true, [([], []), ([0], [0]), ([], []), ([2], [2]), ([], []), ([4], [4]), ([3, 5], [3, 5]), ([1, 6, 6], [1, 6]), ([7], [7]), ([7], [7]), ([8, 7, 0, 1, 2, 3, 4, 5, 6, 7, 8, 9], [8]), ([9, 10, 0, 1, 2, 3, 4, 5, 6, 7, 8, 9, 10], [9])])
def lapidaryref02_Add.B4 : List Nat := [0, 1, 0, 4, 0, 16, 60, 127, 255, 255, 1023, 2047]
theorem lapidaryref02_Add.tab4 : rtab .any (opsOf Try.f30 4) = lapidaryref02_Add.T4 := by kernel_rfl
theorem lapidaryref02_Add.bits4 : waitsOk lapidaryref02_Add.T4.2 lapidaryref02_Add.B4 = true := by kernel_rfl
def lapidaryref02_Add.T6 : Bool × List (List Nat × List Nat) := (true, [([], []), ([0], [0]), ([], []), ([2], [2]), ([], []), ([4], [4]), ([3, 5], [3, 5]), ([1, 6, 6], [1, 6]), ([7], [7]), ([7], [7]), ([8, 7, 0, 1, 2, 3, 4, 5, 6, 7, 8, 9], [8]), ([9, 10, 0, 1, 2, 3, 4, 5, 6, 7, 8, 9, 10], [9])])
def lapidaryref02_Add.B6 : List Nat := [0, 1, 0, 4, 0, 16, 60, 127, 255, 255, 1023, 2047]
theorem lapidaryref02_Add.tab6 : rtab .any (opsOf Try.f30 6) = lapidaryref02_Add.T6 := by kernel_rfl
theorem lapidaryref02_Add.bits6 : waitsOk lapidaryref02_Add.T6.2 lapidaryref02_Add.B6 = true := by kernel_rfl
def lapidaryref02_Add.T7 : Bool × List (List Nat × List Nat) := (true, [([], []), ([0], [0]), ([], []), ([2], [2]), ([], []), ([4], [4]), ([3, 5], [3, 5]), ([1, 6, 6], [1, 6]), ([7], [7]), ([7], [7]), ([8, 7, 0, 1, 2, 3, 4, 5, 6, 7, 8, 9], [8]), ([9, 10, 0, 1, 2, 3, 4, 5, 6, 7, 8, 9, 10], [9])])
def lapidaryref02_Add.B7 : List Nat := [0, 1, 0, 4, 0, 16, 60, 127, 255, 255, 1023, 2047]
theorem lapidaryref02_Add.tab7 : rtab .any (opsOf Try.f30 7) = lapidaryref02_Add.T7 := by kernel_rfl
theorem lapidaryref02_Add.bits7 : waitsOk lapidaryref02_Add.T7.2 lapidaryref02_Add.B7 = true := by kernel_rfl
theorem lapidaryref02_Add.calls (k : Nat) (a6 : Bool) (af : Option Addr) (ae : Nat) (a5 : List Int) (aa : Bool) (ag : Option Addr) (ai : Nat) (a9 : List Int) (r1 : Bool) (r2 : List Int) (r3 : Int) (w : World) (aE : Kd.C (Kd.int .u8) w af a5.length a5) (aC : a5.length ≤ ae) (aA : Kd.C (Kd.int .u8) w ag a9.length a9) (aF : a9.length ≤ ai) (h : lapidaryref02_Add.f k a6 a5 aa a9 = some (r1, r2, r3)) :
  Calls Try.prog 30 #[.agg #[.bool a6, .slice af a5.length ae], .agg #[.bool aa, .slice ag a9.length ai]] w fun e w' => ∃ ca : Value, e = .returned (.tuple #[.agg #[.bool r1, ca], .int .i64 r3]) ∧ Kd.R (Kd.int .u8) 5 w' w.heap.size (fun _ => True) ca r2 ∧ Below w.heap.size w w' := by
 have hu24 := Try.underlying24
 have al := Aside0.mk aE
 have ak := Aside0.mk aC
 clear aE aC
 have an := Aside0.mk aA
 have ap := Aside0.mk aF
 clear aA aF
 have HB := Aside0.mk (Below.refl w.heap.size w)
 have H : ((lapidaryref02_Right.f a6 a5).bind fun aH => (if aH = true then ((lapidaryref02_Right.f aa a9).bind fun ay => (lapidaryref02_Add.j0 k (!ay) a6 a5 aa a9)) else (lapidaryref02_Add.j0 k true a6 a5 aa a9))) = some (r1, r2, r3) := h
 clear h
 have bK := Aside0.mk H
 clear H
 go_enter Try.func30, Try.ntmps30
 go_upto_region 1 with (first | ((with_reducible refine gd 2 rfl ?_); refine bX 2 rfl HB #[.bool a6, .slice af a5.length ae] 24 ?_; intro aj w4 a0 cl hg hb; replace HB := hB HB hb; clear hb hg) | ((with_reducible refine gd 3 rfl ?_); refine bX 3 rfl HB #[.bool aa, .slice ag a9.length ai] 24 ?_; intro ah w5 a1 co hg hb; obtain ⟨ad, aL⟩ := nB a0 hg; replace a0 := kB a0 hb; replace HB := hB HB hb; clear hb hg) | ((with_reducible refine gd 4 rfl ?_); refine bX 4 rfl HB #[.bool false, .slice none 0 0] 24 ?_; intro ab w6 a4 bV hg hb; obtain ⟨a2, a8⟩ := nB a0 hg; obtain ⟨a3, a7⟩ := nB a1 hg; replace a0 := kB a0 hb; replace a1 := kB a1 hb; replace HB := hB HB hb; clear hb hg))
 (try simp only [Act.put, List.setIfInBounds_toArray, List.set_cons_zero, List.set_cons_succ])
 go_cut [13] (fun v13 wc => ∃ (kq : Nat) (au : Bool), v13 = .bool au ∧ Aside0 (lapidaryref02_Add.j0 kq au a6 a5 aa a9 = some (r1, r2, r3)) ∧ Aside0 (kq ≤ k) ∧ Aside0 (wc.heap[aj]? = some (.cells #[.bool a6, (.slice af a5.length ae)] 24 (0, 0))) ∧ Aside0 (wc.heap[ah]? = some (.cells #[.bool aa, (.slice ag a9.length ai)] 24 (0, 0))) ∧ Aside0 (wc.heap[ab]? = some (.cells #[.bool false, (.slice none 0 0)] 24 (0, 0))) ∧ Aside0 (Below w.heap.size w wc))
 case first =>
  have H := bK.out
  clear bK
  obtain ⟨aH, A7, H⟩ := bs H
  by_cases c8 : aH = true
  ·subst c8
   replace H := ip H
   obtain ⟨ay, A9, H⟩ := bs H
   have H' := Aside0.mk H
   clear H
   have hn10 := nn ad
   have hn11 := nn a2
   have ck := zf2 a0
   go_wp2_with (first | ((with_reducible refine ga 40 rfl ?_); refine gc (some 7) Try.func40 #[.agg #[.bool a6, .slice af a5.length ae]] (lapidaryref02_Right.calls a6 _ _ a5 true _ (cb al HB) ak.out A7.out) ?_; rintro e w13 ⟨rfl, hb⟩; refine ⟨_, rfl, ?_⟩; replace a0 := kB a0 hb; replace a1 := kB a1 hb; replace a4 := kB a4 hb; replace HB := hB HB hb; clear hb; have hn14 := nn a3; have bZ := zf2 a1) | (go_at_call 40; (with_reducible refine (lapidaryref02_Right.calls aa _ _ a9 ay _ ?side1 ?side2 A9.out).mono ?_); (case side1 => exact cb an HB); (case side2 => exact ap.out); rintro e w16 ⟨rfl, hb⟩; replace a0 := kB a0 hb; replace a1 := kB a1 hb; replace a4 := kB a4 hb; replace HB := hB HB hb; clear hb))
   go_meet
   case rel => exact ⟨_, (!ay), sd, H', ⟨le_⟩, ⟨bk⟩, ⟨bk⟩, ⟨bk⟩, ⟨bw⟩⟩
  ·replace c8 := Bool.eq_false_iff.mpr c8
   subst c8
   replace H := iq H
   have H' := Aside0.mk H
   clear H
   have hn17 := nn ad
   have hn18 := nn a2
   have ce := zf2 a0
   go_wp2_with (first | ((with_reducible refine ga 40 rfl ?_); refine gc (some 7) Try.func40 #[.agg #[.bool a6, .slice af a5.length ae]] (lapidaryref02_Right.calls a6 _ _ a5 false _ (cb al HB) ak.out A7.out) ?_; rintro e w20 ⟨rfl, hb⟩; refine ⟨_, rfl, ?_⟩; replace a0 := kB a0 hb; replace a1 := kB a1 hb; replace a4 := kB a4 hb; replace HB := hB HB hb; clear hb))
   go_meet
   case rel => exact ⟨_, (true), sd, H', ⟨le_⟩, ⟨bk⟩, ⟨bk⟩, ⟨bk⟩, ⟨bw⟩⟩
 case rest =>
  clear bK
  obtain ⟨kq, au, rfl, HA, HJ2, a0, a1, a4, HB⟩ := hcut
  cases kq with
  | zero => exact absurd HA.out (by simp [lapidaryref02_Add.j0])
  | succ kj2 =>
   have H := HA.out
   clear HA
   simp only [lapidaryref02_Add.j0] at H
   by_cases bm : au = true
   ·subst bm
    replace H := ip H
    simp only [Option.some.injEq, Prod.mk.injEq] at H
    obtain ⟨rfl, rfl, rfl⟩ := H
    have hn22 := nn a8
    have hn23 := nn a7
    have cs := zf2 a4
    go_wp2
    refine bodyPost_ret (results_ct rfl _ _ ab 24 #[.bool false, .slice none 0 0] (0, 0) _ rfl (bp a4) Try.underlying24 rfl (by kernel_rfl)) rfl ?_
    exact ⟨_, er, nl, bw⟩
   ·replace bm := Bool.eq_false_iff.mpr bm
    subst bm
    replace H := iq H
    by_cases ax : (a6 == aa) = true
    ·rw [if_pos ax] at H
     have aS : (a6 == aa) = true := ax
     (try (have aO : decide (a6 = aa) = true := by simpa using ax))
     (try (have aT : (a6 == aa) = true := by simpa using ax))
     clear ax
     obtain ⟨aI, A26, H⟩ := bs H
     obtain ⟨⟨aW, aM, bQ⟩, A27, H⟩ := bs H
     simp only [Option.some.injEq, Prod.mk.injEq] at H
     obtain ⟨rfl, rfl, rfl⟩ := H
     have hn28 := nn ad
     have hn29 := nn a2
     have ci := zf2 a0
     have hn31 := nn a3
     have bW := zf2 a1
     try go_wp2
     replace a0 := Aside0.mk (blk_drew a0.out)
     replace a1 := Aside0.mk (blk_drew a1.out)
     replace a4 := Aside0.mk (blk_drew a4.out)
     replace HB := Aside0.mk (below_drew1 HB.out)
     refine st 12 (fun w' => w'.cell? ⟨aj, 0, none⟩ = some (.bool a6) ∧ w'.cell? ⟨aj, 1, none⟩ = some (.slice af a5.length ae) ∧ w'.cell? ⟨ah, 0, none⟩ = some (.bool aa) ∧ w'.cell? ⟨ah, 1, none⟩ = some (.slice ag a9.length ai)) [] ⟨bc a0 0, bc a0 1, bc a1 0, bc a1 1⟩ (fun hHeld => ?_); refine with_tabW lapidaryref02_Add.tab4 lapidaryref02_Add.bits4 (fun ac aw => ?_)
     generalize wc.drew = w33 at a0 a1 a4 HB hHeld ⊢
     refine pu ac 0 (some 20) ?_
     refine pu ac 2 (some 22) ?_
     refine pu ac 4 (some 24) ?_
     refine tk ac aw 1 (some 21) hHeld ?_
     refine tk ac aw 3 (some 23) hHeld ?_
     refine tk ac aw 5 (some 25) hHeld ?_
     refine on ac 6 (some 26) fun K hK => ?_
     refine go_ Try.func76 #[.slice af a5.length ae, .slice ag a9.length ai] ?_
     with_reducible refine (lapidaryref02_sum.calls kj2 _ _ a5 _ _ a9 aI _ ?side1 ?side2 ?side3 ?side4 A26.out).mono ?_
     (case side1 => exact cb al HB)
     (case side2 => exact ak.out)
     (case side3 => exact cb an HB)
     (case side4 => exact ap.out)
     rintro e w34 ⟨v604, rfl, ar, hb⟩
     refine ⟨_, rfl, ?_⟩
     have am := rL HB ar
     replace a0 := kB a0 hb
     replace a1 := kB a1 hb
     replace a4 := kB a4 hb
     replace HB := hB HB hb
     clear hb ar
     obtain ⟨bx, bL, bz⟩ := sl am; cases bz
     refine hK.out _ _ ⟨bc a0 0, bc a0 1, bc a1 0, bc a1 1⟩ (fun hHeld => ?_)
     clear hK K
     refine nm (some 26) ?_
     refine on ac 7 (some 27) fun K hK => ?_
     refine go_ Try.func79 #[.bool a6, .slice bx aI.length bL] ?_
     with_reducible refine (lapidaryref02_fits.calls a6 _ _ aI aW aM bQ _ ?side1 ?side2 A27.out).mono ?_
     (case side1 => exact cr am)
     (case side2 => exact rl am)
     rintro e cj ⟨v608, rfl, ar, hb⟩
     refine ⟨_, rfl, ?_⟩
     have az := rL HB (rn ar am)
     replace am := rE am ar hb
     replace a0 := kB a0 hb
     replace a1 := kB a1 hb
     replace a4 := kB a4 hb
     replace HB := hB HB hb
     clear hb ar
     obtain ⟨bM, bR, bH⟩ := sl az; cases bH
     refine hK.out _ _ ⟨bc a0 0, bc a0 1, bc a1 0, bc a1 1⟩ (fun hHeld => ?_)
     clear hK K
     refine nm (some 27) ?_
     refine pu ac 8 (some 28) ?_
     refine pu ac 9 (some 29) ?_
     refine on ac 10 none fun K hK => ?_
     have hs37 : cj.cell? ⟨ab, 0, none⟩ = some (.bool false) := bc a4 0
     have c0 := blk_frozen a4.out 0
     have b6 := a2.out
     have br := a3.out
     have bg := a8.out
     have bd := a7.out
     have hs39 : cj.cell? ⟨ab, 1, none⟩ = some (.slice none 0 0) := bc a4 1
     have cm := blk_frozen a4.out 1
     have be := a2.out
     have b3 := a3.out
     have bf := a8.out
     have bj := a7.out
     refine skip_ (w1 := ?_) (by rfl) rfl ?_ ?_
     rotate_left
     ·go_simp
      rfl
     refine hK.out _ _ ⟨(cf a2 (cf a2 hHeld.1)), (cf a2 (cf a2 hHeld.2.1)), (cf a3 (cf a3 hHeld.2.2.1)), (cf a3 (cf a3 hHeld.2.2.2))⟩ (fun hHeld => ?_)
     clear hK K
     refine pu ac 11 (some 5) ?_
     refine dn ac ?_
     try go_wp2
     refine bodyPost_ret (results_ct rfl _ _ ab 24 #[.bool aW, .slice bM aM.length bR] (0, 0) _ rfl (bp a4) Try.underlying24 rfl (by kernel_rfl)) rfl ?_
     exact ⟨_, er, rf (rt az a4), bw⟩
    ·rw [if_neg ax] at H
     have aS : (a6 == aa) = false := by simpa using ax
     (try (have aO : decide (a6 = aa) = false := by simpa using ax))
     (try (have aT : (a6 == aa) = false := by simpa using ax))
     (try (have cd : ¬ (a6 = aa) := by simpa using ax))
     clear ax
     obtain ⟨av, cq, H⟩ := bs H
     by_cases aK : av ≥ 0
     ·rw [if_pos aK] at H
      have aU : decide (0 ≤ av) = true := decide_eq_true aK
      clear aK
      obtain ⟨aG, A42, H⟩ := bs H
      obtain ⟨⟨aQ, aN, bu⟩, A43, H⟩ := bs H
      simp only [Option.some.injEq, Prod.mk.injEq] at H
      obtain ⟨rfl, rfl, rfl⟩ := H
      have hn44 := nn ad
      have hn45 := nn a2
      have cw := zf2 a0
      have hn47 := nn a3
      have c1 := zf2 a1
      try go_wp2_with (first | ((with_reducible refine ga 83 rfl ?_); refine gc (some 34) Try.func83 #[.slice af a5.length ae, .slice ag a9.length ai] (lapidaryref02_cmp.calls kj2 _ _ a5 _ _ a9 av _ (cb al HB) ak.out (cb an HB) ap.out cq.out) ?_; rintro e w' ⟨rfl, ⟨nd, rfl⟩⟩; refine ⟨_, rfl, ?_⟩; (try (rw [drewN_self wc]; generalize hq_ : World.drewN wc _ = wc; have aR : Aside0 (wc.heap[aj]? = some (.cells #[.bool a6, .slice af a5.length ae] 24 (0, 0))) := ⟨by rw [← hq_]; exact bk⟩; have aX : Aside0 (wc.heap[ah]? = some (.cells #[.bool aa, .slice ag a9.length ai] 24 (0, 0))) := ⟨by rw [← hq_]; exact bk⟩; have aV : Aside0 (wc.heap[ab]? = some (.cells #[.bool false, .slice none 0 0] 24 (0, 0))) := ⟨by rw [← hq_]; exact bk⟩; have aY : Aside0 (Below w.heap.size w wc) := ⟨by rw [← hq_]; exact bw⟩; clear a0 a1 a4 HB hq_; have a0 := aR; have a1 := aX; have a4 := aV; have HB := aY; clear aR aX aV aY))))
      replace a0 := Aside0.mk (blk_drew a0.out)
      replace a1 := Aside0.mk (blk_drew a1.out)
      replace a4 := Aside0.mk (blk_drew a4.out)
      replace HB := Aside0.mk (below_drew1 HB.out)
      refine st 12 (fun w' => w'.cell? ⟨aj, 0, none⟩ = some (.bool a6) ∧ w'.cell? ⟨aj, 1, none⟩ = some (.slice af a5.length ae) ∧ w'.cell? ⟨ah, 0, none⟩ = some (.bool aa) ∧ w'.cell? ⟨ah, 1, none⟩ = some (.slice ag a9.length ai)) [] ⟨bc a0 0, bc a0 1, bc a1 0, bc a1 1⟩ (fun hHeld => ?_); refine with_tabW lapidaryref02_Add.tab6 lapidaryref02_Add.bits6 (fun ac aw => ?_)
      generalize wc.drew = w49 at a0 a1 a4 HB hHeld ⊢
      refine pu ac 0 (some 36) ?_
      refine pu ac 2 (some 38) ?_
      refine pu ac 4 (some 40) ?_
      refine tk ac aw 1 (some 37) hHeld ?_
      refine tk ac aw 3 (some 39) hHeld ?_
      refine tk ac aw 5 (some 41) hHeld ?_
      refine on ac 6 (some 42) fun K hK => ?_
      refine go_ Try.func84 #[.slice af a5.length ae, .slice ag a9.length ai] ?_
      with_reducible refine (lapidaryref02_less.calls kj2 _ _ a5 _ _ a9 aG _ ?side1 ?side2 ?side3 ?side4 A42.out).mono ?_
      (case side1 => exact cb al HB)
      (case side2 => exact ak.out)
      (case side3 => exact cb an HB)
      (case side4 => exact ap.out)
      rintro e w50 ⟨v613, rfl, ar, hb⟩
      refine ⟨_, rfl, ?_⟩
      have ao := rL HB ar
      replace a0 := kB a0 hb
      replace a1 := kB a1 hb
      replace a4 := kB a4 hb
      replace HB := hB HB hb
      clear hb ar
      obtain ⟨bA, bF, bP⟩ := sl ao; cases bP
      refine hK.out _ _ ⟨bc a0 0, bc a0 1, bc a1 0, bc a1 1⟩ (fun hHeld => ?_)
      clear hK K
      refine nm (some 42) ?_
      refine on ac 7 (some 43) fun K hK => ?_
      refine go_ Try.func79 #[.bool a6, .slice bA aG.length bF] ?_
      with_reducible refine (lapidaryref02_fits.calls a6 _ _ aG aQ aN bu _ ?side1 ?side2 A43.out).mono ?_
      (case side1 => exact cr ao)
      (case side2 => exact rl ao)
      rintro e cn ⟨v617, rfl, ar, hb⟩
      refine ⟨_, rfl, ?_⟩
      have aB := rL HB (rn ar ao)
      replace ao := rE ao ar hb
      replace a0 := kB a0 hb
      replace a1 := kB a1 hb
      replace a4 := kB a4 hb
      replace HB := hB HB hb
      clear hb ar
      obtain ⟨bJ, bT, bv⟩ := sl aB; cases bv
      refine hK.out _ _ ⟨bc a0 0, bc a0 1, bc a1 0, bc a1 1⟩ (fun hHeld => ?_)
      clear hK K
      refine nm (some 43) ?_
      refine pu ac 8 (some 44) ?_
      refine pu ac 9 (some 45) ?_
      refine on ac 10 none fun K hK => ?_
      have hs53 : cn.cell? ⟨ab, 0, none⟩ = some (.bool false) := bc a4 0
      have cx := blk_frozen a4.out 0
      have bo := a2.out
      have b1 := a3.out
      have b5 := a8.out
      have bl := a7.out
      have hs55 : cn.cell? ⟨ab, 1, none⟩ = some (.slice none 0 0) := bc a4 1
      have cu := blk_frozen a4.out 1
      have bh := a2.out
      have b2 := a3.out
      have bb := a8.out
      have b7 := a7.out
      refine skip_ (w1 := ?_) (by rfl) rfl ?_ ?_
      rotate_left
      ·go_simp
       rfl
      refine hK.out _ _ ⟨(cf a2 (cf a2 hHeld.1)), (cf a2 (cf a2 hHeld.2.1)), (cf a3 (cf a3 hHeld.2.2.1)), (cf a3 (cf a3 hHeld.2.2.2))⟩ (fun hHeld => ?_)
      clear hK K
      refine pu ac 11 (some 5) ?_
      refine dn ac ?_
      try go_wp2
      refine bodyPost_ret (results_ct rfl _ _ ab 24 #[.bool aQ, .slice bJ aN.length bT] (0, 0) _ rfl (bp a4) Try.underlying24 rfl (by kernel_rfl)) rfl ?_
      exact ⟨_, er, rf (rt aB a4), bw⟩
     ·rw [if_neg aK] at H
      have aU : decide (0 ≤ av) = false := decide_eq_false aK
      clear aK
      obtain ⟨aJ, A56, H⟩ := bs H
      obtain ⟨⟨aP, aZ, bG⟩, A57, H⟩ := bs H
      simp only [Option.some.injEq, Prod.mk.injEq] at H
      obtain ⟨rfl, rfl, rfl⟩ := H
      have hn58 := nn ad
      have hn59 := nn a2
      have cp := zf2 a0
      have hn61 := nn a3
      have ch := zf2 a1
      try go_wp2_with (first | ((with_reducible refine ga 83 rfl ?_); refine gc (some 34) Try.func83 #[.slice af a5.length ae, .slice ag a9.length ai] (lapidaryref02_cmp.calls kj2 _ _ a5 _ _ a9 av _ (cb al HB) ak.out (cb an HB) ap.out cq.out) ?_; rintro e w' ⟨rfl, ⟨nd, rfl⟩⟩; refine ⟨_, rfl, ?_⟩; (try (rw [drewN_self wc]; generalize hq_ : World.drewN wc _ = wc; have aR : Aside0 (wc.heap[aj]? = some (.cells #[.bool a6, .slice af a5.length ae] 24 (0, 0))) := ⟨by rw [← hq_]; exact bk⟩; have aX : Aside0 (wc.heap[ah]? = some (.cells #[.bool aa, .slice ag a9.length ai] 24 (0, 0))) := ⟨by rw [← hq_]; exact bk⟩; have aV : Aside0 (wc.heap[ab]? = some (.cells #[.bool false, .slice none 0 0] 24 (0, 0))) := ⟨by rw [← hq_]; exact bk⟩; have aY : Aside0 (Below w.heap.size w wc) := ⟨by rw [← hq_]; exact bw⟩; clear a0 a1 a4 HB hq_; have a0 := aR; have a1 := aX; have a4 := aV; have HB := aY; clear aR aX aV aY))))
      replace a0 := Aside0.mk (blk_drew a0.out)
      replace a1 := Aside0.mk (blk_drew a1.out)
      replace a4 := Aside0.mk (blk_drew a4.out)
      replace HB := Aside0.mk (below_drew1 HB.out)
      refine st 12 (fun w' => w'.cell? ⟨ah, 0, none⟩ = some (.bool aa) ∧ w'.cell? ⟨ah, 1, none⟩ = some (.slice ag a9.length ai) ∧ w'.cell? ⟨aj, 0, none⟩ = some (.bool a6) ∧ w'.cell? ⟨aj, 1, none⟩ = some (.slice af a5.length ae)) [] ⟨bc a1 0, bc a1 1, bc a0 0, bc a0 1⟩ (fun hHeld => ?_); refine with_tabW lapidaryref02_Add.tab7 lapidaryref02_Add.bits7 (fun ac aw => ?_)
      generalize wc.drew = w63 at a0 a1 a4 HB hHeld ⊢
      refine pu ac 0 (some 46) ?_
      refine pu ac 2 (some 48) ?_
      refine pu ac 4 (some 50) ?_
      refine tk ac aw 1 (some 47) hHeld ?_
      refine tk ac aw 3 (some 49) hHeld ?_
      refine tk ac aw 5 (some 51) hHeld ?_
      refine on ac 6 (some 52) fun K hK => ?_
      refine go_ Try.func84 #[.slice ag a9.length ai, .slice af a5.length ae] ?_
      with_reducible refine (lapidaryref02_less.calls kj2 _ _ a9 _ _ a5 aJ _ ?side1 ?side2 ?side3 ?side4 A56.out).mono ?_
      (case side1 => exact cb an HB)
      (case side2 => exact ap.out)
      (case side3 => exact cb al HB)
      (case side4 => exact ak.out)
      rintro e w64 ⟨v621, rfl, ar, hb⟩
      refine ⟨_, rfl, ?_⟩
      have aq := rL HB ar
      replace a0 := kB a0 hb
      replace a1 := kB a1 hb
      replace a4 := kB a4 hb
      replace HB := hB HB hb
      clear hb ar
      obtain ⟨bC, bN, bB⟩ := sl aq; cases bB
      refine hK.out _ _ ⟨bc a1 0, bc a1 1, bc a0 0, bc a0 1⟩ (fun hHeld => ?_)
      clear hK K
      refine nm (some 52) ?_
      refine on ac 7 (some 53) fun K hK => ?_
      refine go_ Try.func79 #[.bool aa, .slice bC aJ.length bN] ?_
      with_reducible refine (lapidaryref02_fits.calls aa _ _ aJ aP aZ bG _ ?side1 ?side2 A57.out).mono ?_
      (case side1 => exact cr aq)
      (case side2 => exact rl aq)
      rintro e cg ⟨v625, rfl, ar, hb⟩
      refine ⟨_, rfl, ?_⟩
      have aD := rL HB (rn ar aq)
      replace aq := rE aq ar hb
      replace a0 := kB a0 hb
      replace a1 := kB a1 hb
      replace a4 := kB a4 hb
      replace HB := hB HB hb
      clear hb ar
      obtain ⟨bU, bD, bO⟩ := sl aD; cases bO
      refine hK.out _ _ ⟨bc a1 0, bc a1 1, bc a0 0, bc a0 1⟩ (fun hHeld => ?_)
      clear hK K
      refine nm (some 53) ?_
      refine pu ac 8 (some 54) ?_
      refine pu ac 9 (some 55) ?_
      refine on ac 10 none fun K hK => ?_
      have hs67 : cg.cell? ⟨ab, 0, none⟩ = some (.bool false) := bc a4 0
      have ct := blk_frozen a4.out 0
      have ba := a2.out
      have bn := a3.out
      have bq := a8.out
      have b0 := a7.out
      have hs69 : cg.cell? ⟨ab, 1, none⟩ = some (.slice none 0 0) := bc a4 1
      have cc := blk_frozen a4.out 1
      have b4 := a2.out
      have bi := a3.out
      have b8 := a8.out
      have b9 := a7.out
      refine skip_ (w1 := ?_) (by rfl) rfl ?_ ?_
      rotate_left
      ·go_simp
       rfl
      refine hK.out _ _ ⟨(cf a3 (cf a3 hHeld.1)), (cf a3 (cf a3 hHeld.2.1)), (cf a2 (cf a2 hHeld.2.2.1)), (cf a2 (cf a2 hHeld.2.2.2))⟩ (fun hHeld => ?_)
      clear hK K
      refine pu ac 11 (some 5) ?_
      refine dn ac ?_
      try go_wp2
      refine bodyPost_ret (results_ct rfl _ _ ab 24 #[.bool aP, .slice bU aZ.length bD] (0, 0) _ rfl (bp a4) Try.underlying24 rfl (by kernel_rfl)) rfl ?_
      exact ⟨_, er, rf (rt aD a4), bw⟩
end Go.Proofs.Ytfjbhccapgnkiaa.P
