import Derived.Test.YtfjbhccapgnkiaaB1
import Derived.Test.YtfjbhccapgnkiaaB3
namespace Go.Proofs.Ytfjbhccapgnkiaa.P
open Go.RowKit Go.Proofs.YtfjbhccapgnkiaaW.PrintWords Go.Proofs.YtfjbhccapgnkiaaW.PrintLast Go.Proofs.YtfjbhccapgnkiaaW.PrintMore
attribute [local go_sem] max2_int min2_int max_two min_two max_three min_three max_four min_four
set_option linter.unusedVariables false
set_option maxHeartbeats 16000000
set_option maxRecDepth 100000
set_option linter.unusedSimpArgs false
/-! ### whole_divide: function 71 -/
mutual
def whole_divide.j0 : Nat → Bool → Bool → List Int → Bool → List Int → Option (Bool × List Int × Bool × List Int × Int)
 | 0, _, _, _, _, _ => none
 | k + 1, x11, a2, a4, a0, a1 => if x11 = true then (some (false, ([] : List Int), false, ([] : List Int), 1)) else (if (a1.length : Int) = 0 then (some (false, ([] : List Int), false, ([] : List Int), 23)) else ((whole_wordsOf.f k a1).bind fun a5 => ((whole_wordsOf.f k a4).bind fun a6 => ((whole_split.f k a6 a5).bind fun a3 => (if (a2 != a0) = true then (whole_divide.j1 k a5 a3.1 a3.2 (a2 != a0) (decide ((a3.2.length : Int) > 0)) a0 a1) else (whole_divide.j1 k a5 a3.1 a3.2 (a2 != a0) false a0 a1))))))
def whole_divide.j1 : Nat → List Int → List Int → List Int → Bool → Bool → Bool → List Int → Option (Bool × List Int × Bool × List Int × Int)
 | 0, _, _, _, _, _, _, _ => none
 | k + 1, x7, x8, x9, a8, x50, a0, a5 => if x50 = true then ((whole_plus.f k x8 (([1] : List Int))).bind fun a7 => ((whole_minus.f k x7 x9).bind fun a6 => ((whole_made.f k a8 a7).bind fun a3 => ((whole_made.f k a0 a6).bind fun a4 => (some (a3.1, a3.2, a4.1, a4.2, 0)))))) else ((whole_made.f k a8 x8).bind fun a1 => ((whole_made.f k a0 x9).bind fun a2 => (some (a1.1, a1.2, a2.1, a2.2, 0))))
end
def whole_divide.f (k : Nat) (a0 : Bool) (a1 : List Int) (a3 : Bool) (a2 : List Int) : Option (Bool × List Int × Bool × List Int × Int) := (whole_Right.f a0 a1).bind fun a4 => (if a4 = true then ((whole_Right.f a3 a2).bind fun a5 => (whole_divide.j0 k (!a5) a0 a1 a3 a2)) else (whole_divide.j0 k true a0 a1 a3 a2))
theorem whole_divide.mono_l : ∀ k, (∀ y0 y1 y2 y3 y4, LeO (whole_divide.j0 k y0 y1 y2 y3 y4) (whole_divide.j0 (k + 1) y0 y1 y2 y3 y4)) ∧ (∀ y0 y1 y2 y3 y4 y5 y6, LeO (whole_divide.j1 k y0 y1 y2 y3 y4 y5 y6) (whole_divide.j1 (k + 1) y0 y1 y2 y3 y4 y5 y6))
 | 0 => ⟨fun _ _ _ _ _ r h => by simp [whole_divide.j0] at h, fun _ _ _ _ _ _ _ r h => by simp [whole_divide.j1] at h⟩
 | k + 1 => by
  obtain ⟨a0, a1⟩ := whole_divide.mono_l k
  refine ⟨?_, ?_⟩
  ·intro y0 y1 y2 y3 y4
   unfold whole_divide.j0
   repeat' first | with_reducible exact a0 _ _ _ _ _ | with_reducible exact a1 _ _ _ _ _ _ _ | with_reducible exact whole_made.mono _ _ _ | with_reducible exact whole_minus.mono _ _ _ | with_reducible exact whole_plus.mono _ _ _ | with_reducible exact whole_split.mono _ _ _ | with_reducible exact whole_wordsOf.mono _ _ | with_reducible exact LeO.refl _ | with_reducible exact LeO.none _ | with_reducible refine LeO.ite ?_ ?_ | with_reducible refine LeO.bind ?_ (fun _ => ?_) | exact a0 _ _ _ _ _ | exact a1 _ _ _ _ _ _ _ | exact whole_made.mono _ _ _ | exact whole_minus.mono _ _ _ | exact whole_plus.mono _ _ _ | exact whole_split.mono _ _ _ | exact whole_wordsOf.mono _ _ | exact LeO.none _ | refine LeO.ite ?_ ?_ | refine LeO.bind ?_ (fun _ => ?_)
  ·intro y0 y1 y2 y3 y4 y5 y6
   unfold whole_divide.j1
   repeat' first | with_reducible exact a0 _ _ _ _ _ | with_reducible exact a1 _ _ _ _ _ _ _ | with_reducible exact whole_made.mono _ _ _ | with_reducible exact whole_minus.mono _ _ _ | with_reducible exact whole_plus.mono _ _ _ | with_reducible exact whole_split.mono _ _ _ | with_reducible exact whole_wordsOf.mono _ _ | with_reducible exact LeO.refl _ | with_reducible exact LeO.none _ | with_reducible refine LeO.ite ?_ ?_ | with_reducible refine LeO.bind ?_ (fun _ => ?_) | exact a0 _ _ _ _ _ | exact a1 _ _ _ _ _ _ _ | exact whole_made.mono _ _ _ | exact whole_minus.mono _ _ _ | exact whole_plus.mono _ _ _ | exact whole_split.mono _ _ _ | exact whole_wordsOf.mono _ _ | exact LeO.none _ | refine LeO.ite ?_ ?_ | refine LeO.bind ?_ (fun _ => ?_)
theorem whole_divide.mono : ∀ a0 a1 a2 a3 k, LeO (whole_divide.f k a0 a1 a2 a3) (whole_divide.f (k + 1) a0 a1 a2 a3) := by
 intro a0 a1 a2 a3 k
 obtain ⟨a4, a5⟩ := whole_divide.mono_l k
 unfold whole_divide.f
 repeat' first | with_reducible exact a4 _ _ _ _ _ | with_reducible exact a5 _ _ _ _ _ _ _ | with_reducible exact whole_made.mono _ _ _ | with_reducible exact whole_minus.mono _ _ _ | with_reducible exact whole_plus.mono _ _ _ | with_reducible exact whole_split.mono _ _ _ | with_reducible exact whole_wordsOf.mono _ _ | with_reducible exact LeO.refl _ | with_reducible exact LeO.none _ | with_reducible refine LeO.ite ?_ ?_ | with_reducible refine LeO.bind ?_ (fun _ => ?_) | exact a4 _ _ _ _ _ | exact a5 _ _ _ _ _ _ _ | exact whole_made.mono _ _ _ | exact whole_minus.mono _ _ _ | exact whole_plus.mono _ _ _ | exact whole_split.mono _ _ _ | exact whole_wordsOf.mono _ _ | exact LeO.none _ | refine LeO.ite ?_ ?_ | refine LeO.bind ?_ (fun _ => ?_)
def whole_divide.T10 : Bool × List (List Nat × List Nat) := (true, [([], []), ([], []), ([0, 1], [0, 1]), ([], []), ([3], [3]), ([], []), ([4, 5, 2], [4, 5]), ([2, 6, 0, 1, 2], [2]), ([6, 7, 0, 1, 2, 3, 4, 5, 6, 7], [6]), ([8, 0, 1, 2, 3, 4, 5, 6, 7, 8], [])])
def whole_divide.B10 : List Nat := [0, 0, 3, 0, 8, 0, 63, 127, 255, 511]
theorem whole_divide.tab10 : rtab .any (opsOf Try.f71 10) = whole_divide.T10 := by kernel_rfl
theorem whole_divide.bits10 : waitsOk whole_divide.T10.2 whole_divide.B10 = true := by kernel_rfl
theorem whole_divide.calls (k : Nat) (a8 : Bool) (az : Option Addr) (aA : Nat) (am : List Int) (a6 : Bool) (ay : Option Addr) (aB : Nat) (ac : List Int) (r1 : Bool) (r2 : List Int) (r3 : Bool) (r4 : List Int) (r5 : Int) (w : World) (aZ : Kd.C (Kd.int .u8) w az am.length am) (ba : am.length ≤ aA) (b4 : Kd.C (Kd.int .u8) w ay ac.length ac) (b1 : ac.length ≤ aB) (h : whole_divide.f k a8 am a6 ac = some (r1, r2, r3, r4, r5)) :
  Calls Try.prog 71 #[.agg #[.bool a8, .slice az am.length aA], .agg #[.bool a6, .slice ay ac.length aB]] w fun e w' => ∃ cT d7 : Value, e = .returned (.tuple #[.agg #[.bool r1, cT], .agg #[.bool r3, d7], .int .i64 r5]) ∧ Kd.R (Kd.int .u8) 5 w' w.heap.size (fun k_ => some k_ ≠ (d7 : Value).ownBlock) cT r2 ∧ Kd.R (Kd.int .u8) 5 w' w.heap.size (fun k_ => some k_ ≠ (cT : Value).ownBlock) d7 r4 ∧ Below w.heap.size w w' := by
 have hu25 := Try.underlying25
 have aV := Aside0.mk aZ
 have aS := Aside0.mk ba
 clear aZ ba
 have b2 := Aside0.mk b4
 have b8 := Aside0.mk b1
 clear b4 b1
 have HB := Aside0.mk (Below.refl w.heap.size w)
 have H : ((whole_Right.f a8 am).bind fun bj => (if bj = true then ((whole_Right.f a6 ac).bind fun aX => (whole_divide.j0 k (!aX) a8 am a6 ac)) else (whole_divide.j0 k true a8 am a6 ac))) = some (r1, r2, r3, r4, r5) := h
 clear h
 have cZ := Aside0.mk H
 clear H
 go_enter Try.func71, Try.ntmps71
 go_upto_region 1 with (first | ((with_reducible refine gd 2 rfl ?_); refine bX 2 rfl HB #[.bool a8, .slice az am.length aA] 25 ?_; intro au w4 a3 dx hg hb; replace HB := hB HB hb; clear hb hg) | ((with_reducible refine gd 3 rfl ?_); refine bX 3 rfl HB #[.bool a6, .slice ay ac.length aB] 25 ?_; intro ai w5 a0 dQ hg hb; obtain ⟨aG, aF⟩ := nB a3 hg; replace a3 := kB a3 hb; replace HB := hB HB hb; clear hb hg) | ((with_reducible refine gd 4 rfl ?_); refine bX 4 rfl HB #[.bool false, .slice none 0 0] 25 ?_; intro ab w6 a1 dH hg hb; obtain ⟨ad, al⟩ := nB a3 hg; obtain ⟨a4, ap⟩ := nB a0 hg; replace a3 := kB a3 hb; replace a0 := kB a0 hb; replace HB := hB HB hb; clear hb hg) | ((with_reducible refine gd 5 rfl ?_); refine bX 5 rfl HB #[.bool false, .slice none 0 0] 25 ?_; intro aa w7 a2 dM hg hb; obtain ⟨ae, ak⟩ := nB a3 hg; obtain ⟨a5, an⟩ := nB a0 hg; obtain ⟨a7, a9⟩ := nB a1 hg; replace a3 := kB a3 hb; replace a0 := kB a0 hb; replace a1 := kB a1 hb; replace HB := hB HB hb; clear hb hg))
 (try simp only [Act.put, List.setIfInBounds_toArray, List.set_cons_zero, List.set_cons_succ])
 go_cut [11] (fun v11 wc => ∃ (kq : Nat) (aP : Bool), v11 = .bool aP ∧ Aside0 (whole_divide.j0 kq aP a8 am a6 ac = some (r1, r2, r3, r4, r5)) ∧ Aside0 (kq ≤ k) ∧ Aside0 (wc.heap[au]? = some (.cells #[.bool a8, (.slice az am.length aA)] 25 (0, 0))) ∧ Aside0 (wc.heap[ai]? = some (.cells #[.bool a6, (.slice ay ac.length aB)] 25 (0, 0))) ∧ Aside0 (wc.heap[ab]? = some (.cells #[.bool false, (.slice none 0 0)] 25 (0, 0))) ∧ Aside0 (wc.heap[aa]? = some (.cells #[.bool false, (.slice none 0 0)] 25 (0, 0))) ∧ Aside0 (Below w.heap.size w wc))
 case first =>
  have H := cZ.out
  clear cZ
  obtain ⟨bj, A8, H⟩ := bs H
  by_cases c9 : bj = true
  ·subst c9
   replace H := ip H
   obtain ⟨aX, A10, H⟩ := bs H
   have H' := Aside0.mk H
   clear H
   have hn11 := nn aG
   have hn12 := nn ad
   have hn13 := nn ae
   have dK := zf2 a3
   go_wp2_with (first | ((with_reducible refine ga 39 rfl ?_); refine gc (some 13) Try.func39 #[.agg #[.bool a8, .slice az am.length aA]] (whole_Right.calls a8 _ _ am true _ (cb aV HB) aS.out A8.out) ?_; rintro e w15 ⟨rfl, hb⟩; refine ⟨_, rfl, ?_⟩; replace a3 := kB a3 hb; replace a0 := kB a0 hb; replace a1 := kB a1 hb; replace a2 := kB a2 hb; replace HB := hB HB hb; clear hb; have hn16 := nn a4; have hn17 := nn a5; have dG := zf2 a0) | (go_at_call 39; (with_reducible refine (whole_Right.calls a6 _ _ ac aX _ ?side1 ?side2 A10.out).mono ?_); (case side1 => exact cb b2 HB); (case side2 => exact b8.out); rintro e w19 ⟨rfl, hb⟩; replace a3 := kB a3 hb; replace a0 := kB a0 hb; replace a1 := kB a1 hb; replace a2 := kB a2 hb; replace HB := hB HB hb; clear hb))
   go_meet
   case rel => exact ⟨_, (!aX), sd, H', ⟨le_⟩, ⟨bk⟩, ⟨bk⟩, ⟨bk⟩, ⟨bk⟩, ⟨bw⟩⟩
  ·replace c9 := Bool.eq_false_iff.mpr c9
   subst c9
   replace H := iq H
   have H' := Aside0.mk H
   clear H
   have hn20 := nn aG
   have hn21 := nn ad
   have hn22 := nn ae
   have dw := zf2 a3
   go_wp2_with (first | ((with_reducible refine ga 39 rfl ?_); refine gc (some 13) Try.func39 #[.agg #[.bool a8, .slice az am.length aA]] (whole_Right.calls a8 _ _ am false _ (cb aV HB) aS.out A8.out) ?_; rintro e w24 ⟨rfl, hb⟩; refine ⟨_, rfl, ?_⟩; replace a3 := kB a3 hb; replace a0 := kB a0 hb; replace a1 := kB a1 hb; replace a2 := kB a2 hb; replace HB := hB HB hb; clear hb))
   go_meet
   case rel => exact ⟨_, (true), sd, H', ⟨le_⟩, ⟨bk⟩, ⟨bk⟩, ⟨bk⟩, ⟨bk⟩, ⟨bw⟩⟩
 case rest =>
  clear cZ
  obtain ⟨kq, aP, rfl, HA, dA, a3, a0, a1, a2, HB⟩ := hcut
  cases kq with
  | zero => exact absurd HA.out (by simp [whole_divide.j0])
  | succ kj2 =>
   have H := HA.out
   clear HA
   simp only [whole_divide.j0] at H
   by_cases bn : aP = true
   ·subst bn
    replace H := ip H
    simp only [Option.some.injEq, Prod.mk.injEq] at H
    obtain ⟨rfl, rfl, rfl, rfl, rfl⟩ := H
    have hn26 := nn al
    have hn27 := nn ap
    have hn28 := nn a7
    have dB := zf2 a1
    have hn30 := nn ak
    have hn31 := nn an
    have dz := zf2 a2
    go_wp2
    refine bodyPost_ret (results_list (rs := [.cell 4 25, .cell 5 25, .tmp 6]) rfl (by simp) (.cell ab 25 #[.bool false, .slice none 0 0] (0, 0) _ rfl (bp a1) Try.underlying25 rfl (by kernel_rfl) (.cell aa 25 #[.bool false, .slice none 0 0] (0, 0) _ rfl (bp a2) Try.underlying25 rfl (by kernel_rfl) (.tmp .nil)))) rfl ?_
    exact ⟨_, _, er, nl, nl, bw⟩
   ·replace bn := Bool.eq_false_iff.mpr bn
    subst bn
    replace H := iq H
    by_cases aY : (ac.length : Int) = 0
    ·rw [if_pos aY] at H
     have b6 : ((ac.length : Int) == 0) = true := beq_iff_eq.mpr aY
     have b0 : ((ac.length : Int) != 0) = false := bne_eq_false_iff_eq.mpr aY
     clear aY
     simp only [Option.some.injEq, Prod.mk.injEq] at H
     obtain ⟨rfl, rfl, rfl, rfl, rfl⟩ := H
     have hn34 := nn aF
     have hn35 := nn a4
     have hn36 := nn a5
     have dI := zf2 a0
     have hn38 := nn al
     have hn39 := nn a7
     have du := zf2 a1
     have hn41 := nn ak
     have dt := zf2 a2
     go_wp2
     refine bodyPost_ret (results_list (rs := [.cell 4 25, .cell 5 25, .tmp 6]) rfl (by simp) (.cell ab 25 #[.bool false, .slice none 0 0] (0, 0) _ rfl (bp a1) Try.underlying25 rfl (by kernel_rfl) (.cell aa 25 #[.bool false, .slice none 0 0] (0, 0) _ rfl (bp a2) Try.underlying25 rfl (by kernel_rfl) (.tmp .nil)))) rfl ?_
     exact ⟨_, _, er, nl, nl, bw⟩
    ·rw [if_neg aY] at H
     have b6 : ((ac.length : Int) == 0) = false := beq_eq_false_iff_ne.mpr aY
     have b0 : ((ac.length : Int) != 0) = true := bne_iff_ne.mpr aY
     have bm : ¬ (ac = []) := fun h_ => aY (by rw [h_]; rfl)
     obtain ⟨aw, A43, H⟩ := bs H
     obtain ⟨aW, A44, H⟩ := bs H
     obtain ⟨⟨aN, aJ⟩, A45, H⟩ := bs H
     have bf := Aside0.mk H
     clear H
     have hn47 := nn aF
     have hn48 := nn a4
     have hn49 := nn a5
     have bv := zf2 a0
     go_upto_region 8 with (first | ((with_reducible refine ga 75 rfl ?_); refine gc (some 31) Try.func75 #[.slice ay ac.length aB] (whole_wordsOf.calls kj2 (fun k_ => k_ < w.heap.size) _ _ ac aw _ (Kd.V_mk b8.out (Kd.F_below (Kd.C_F (Kd.heap_int .u8) b2.out) bw)) A43.out) ?_; rintro e w51 ⟨v195, rfl, ao, hb⟩; refine ⟨_, rfl, ?_⟩; have aq := rL HB (Kd.R_mono (ok' := fun k_ => True) ao (fun _ ax => trivial)); replace a3 := kB a3 hb; replace a0 := kB a0 hb; replace a1 := kB a1 hb; replace a2 := kB a2 hb; replace HB := hB HB hb; clear hb ao; have hn52 := nn ad; have hn53 := nn ae; have dJ := zf2 a3) | ((with_reducible refine ga 75 rfl ?_); refine gc (some 35) Try.func75 #[.slice az am.length aA] (whole_wordsOf.calls kj2 (fun k_ => k_ < w.heap.size) _ _ am aW _ (Kd.V_mk aS.out (Kd.F_below (Kd.C_F (Kd.heap_int .u8) aV.out) bw)) A44.out) ?_; rintro e w55 ⟨v198, rfl, ao, hb⟩; refine ⟨_, rfl, ?_⟩; have aD := rL HB (Kd.R_new' (Kd.R_mono (ok' := fun k_ => True) ao (fun _ ax => trivial)) (Kd.R_lt (rb aq))); replace aq := rE aq ao hb; replace a3 := kB a3 hb; replace a0 := kB a0 hb; replace a1 := kB a1 hb; replace a2 := kB a2 hb; replace HB := hB HB hb; clear hb ao; obtain ⟨be, bg, dk⟩ := sl aD; cases dk; obtain ⟨aH, aK, d1⟩ := sl aq; cases d1) | ((with_reducible refine ga 111 rfl ?_); refine gc (some 37) Try.func111 #[.slice be aW.length bg, .slice aH aw.length aK] (whole_split.calls kj2 _ _ aW _ _ aw aN aJ _ (cr aD) (rl aD) (cr aq) (rl aq) A45.out) ?_; rintro e w58 ⟨d9, cO, rfl, ao, dP, hb⟩; refine ⟨_, rfl, ?_⟩; have b9 := Aside0.mk (Kd.V_lower (Kd.V_mono (ok' := fun k_ => some k_ ≠ (.slice aH aw.length aK : Value).ownBlock ∧ some k_ ≠ (.slice be aW.length bg : Value).ownBlock ∧ k_ ≠ au ∧ k_ ≠ ai ∧ k_ ≠ ab ∧ k_ ≠ aa) ao (fun k_ ax => ⟨(Kd.fresh' (Kd.R_lt (rb aq)) k_ ax), (Kd.fresh' (Kd.R_lt (rb aD)) k_ ax), (Kd.freshB (g := au) (o := .cells #[.bool a8, .slice az am.length aA] 25 (0, 0)) bk k_ ax), (Kd.freshB (g := ai) (o := .cells #[.bool a6, .slice ay ac.length aB] 25 (0, 0)) bk k_ ax), (Kd.freshB (g := ab) (o := .cells #[.bool false, .slice none 0 0] 25 (0, 0)) bk k_ ax), (Kd.freshB (g := aa) (o := .cells #[.bool false, .slice none 0 0] 25 (0, 0)) bk k_ ax)⟩)) (sz HB)); have aR := Aside0.mk (Kd.V_lower (Kd.V_mono (ok' := fun k_ => some k_ ≠ (.slice aH aw.length aK : Value).ownBlock ∧ some k_ ≠ (.slice be aW.length bg : Value).ownBlock ∧ k_ ≠ au ∧ k_ ≠ ai ∧ k_ ≠ ab ∧ k_ ≠ aa) dP (fun k_ ax => ⟨(Kd.fresh' (Kd.R_lt (rb aq)) k_ ax), (Kd.fresh' (Kd.R_lt (rb aD)) k_ ax), (Kd.freshB (g := au) (o := .cells #[.bool a8, .slice az am.length aA] 25 (0, 0)) bk k_ ax), (Kd.freshB (g := ai) (o := .cells #[.bool a6, .slice ay ac.length aB] 25 (0, 0)) bk k_ ax), (Kd.freshB (g := ab) (o := .cells #[.bool false, .slice none 0 0] 25 (0, 0)) bk k_ ax), (Kd.freshB (g := aa) (o := .cells #[.bool false, .slice none 0 0] 25 (0, 0)) bk k_ ax)⟩)) (sz HB)); replace aq := rB aq hb; replace aD := rB aD hb; replace a3 := kB a3 hb; replace a0 := kB a0 hb; replace a1 := kB a1 hb; replace a2 := kB a2 hb; replace HB := hB HB hb; clear hb ao dP; have dE := zf2 a3; have dL := zf2 a0))
     (try simp only [Act.put, List.setIfInBounds_toArray, List.set_cons_zero, List.set_cons_succ])
     go_cut [10, 50] (fun v10 v50 wc => ∃ (kq : Nat) (aI : Bool), v10 = .bool (!(a8 == a6)) ∧ v50 = .bool aI ∧ Aside0 (whole_divide.j1 kq aw aN aJ (a8 != a6) aI a6 ac = some (r1, r2, r3, r4, r5)) ∧ Aside0 (kq ≤ kj2) ∧ Aside0 (Kd.R (Kd.int .u32) 118 wc w.heap.size (fun _ => True) (.slice aH aw.length aK) aw) ∧ Aside0 (Kd.V (Kd.int .u32) 118 wc w.heap.size (fun k_ => some k_ ≠ ((.slice aH aw.length aK) : Value).ownBlock ∧ k_ ≠ au ∧ k_ ≠ ai ∧ k_ ≠ ab ∧ k_ ≠ aa) d9 aN) ∧ Aside0 (Kd.V (Kd.int .u32) 118 wc w.heap.size (fun k_ => some k_ ≠ ((.slice aH aw.length aK) : Value).ownBlock ∧ k_ ≠ au ∧ k_ ≠ ai ∧ k_ ≠ ab ∧ k_ ≠ aa) cO aJ) ∧ Aside0 (wc.heap[au]? = some (.cells #[.bool a8, (.slice az am.length aA)] 25 (0, 0))) ∧ Aside0 (wc.heap[ai]? = some (.cells #[.bool a6, (.slice ay ac.length aB)] 25 (0, 0))) ∧ Aside0 (wc.heap[ab]? = some (.cells #[.bool false, (.slice none 0 0)] 25 (0, 0))) ∧ Aside0 (wc.heap[aa]? = some (.cells #[.bool false, (.slice none 0 0)] 25 (0, 0))) ∧ Aside0 (Below w.heap.size w wc))
     case first =>
      have H := bf.out
      clear bf
      by_cases aT : (a8 != a6) = true
      ·rw [if_pos aT] at H
       have aE : (a8 != a6) = true := aT
       (try (have bC : decide (a8 = a6) = false := by simpa using aT))
       (try (have bD : (a8 == a6) = false := by simpa using aT))
       (try (have dN : ¬ (a8 = a6) := by simpa using aT))
       clear aT
       (first | rw [aE] | (simp only [i64_w, i32_w]; rw [aE]) | skip)
       have H' := Aside0.mk H
       clear H
       obtain ⟨Ao62, co62, dj⟩ := vl aR; cases dj
       go_wp2
       go_meet
       case rel => exact ⟨_, (decide ((aJ.length : Int) > 0)), (by first | rfl | (show _ = Value.bool (a8 != a6); rw [aE]) | (simp [*]; done)), sd, H', ⟨by have := dA.out; first | omega | exact Nat.le_refl _⟩, ⟨by (with_reducible repeat (first | apply Kd.R_alloc | apply Kd.R_drewN | apply Kd.R_drew)); exact Kd.R_mono aq.out (fun _ hk => trivial)⟩, ⟨by (with_reducible repeat (first | apply Kd.V_alloc | apply Kd.V_drewN | apply Kd.V_drew)); exact Kd.V_mono b9.out (fun _ hk => ⟨hk.1, ⟨hk.2.2.1, ⟨hk.2.2.2.1, ⟨hk.2.2.2.2.1, hk.2.2.2.2.2⟩⟩⟩⟩)⟩, ⟨by (with_reducible repeat (first | apply Kd.V_alloc | apply Kd.V_drewN | apply Kd.V_drew)); exact Kd.V_mono aR.out (fun _ hk => ⟨hk.1, ⟨hk.2.2.1, ⟨hk.2.2.2.1, ⟨hk.2.2.2.2.1, hk.2.2.2.2.2⟩⟩⟩⟩)⟩, ⟨bk⟩, ⟨bk⟩, ⟨bk⟩, ⟨bk⟩, ⟨bw⟩⟩
      ·rw [if_neg aT] at H
       have aE : (a8 != a6) = false := by simpa using aT
       (try (have bC : decide (a8 = a6) = true := by simpa using aT))
       (try (have bD : (a8 == a6) = true := by simpa using aT))
       clear aT
       (first | rw [aE] | (simp only [i64_w, i32_w]; rw [aE]) | skip)
       have H' := Aside0.mk H
       clear H
       go_wp2
       go_meet
       case rel => exact ⟨_, (false), (by first | rfl | (show _ = Value.bool (a8 != a6); rw [aE]) | (simp [*]; done)), sd, H', ⟨by have := dA.out; first | omega | exact Nat.le_refl _⟩, ⟨by (with_reducible repeat (first | apply Kd.R_alloc | apply Kd.R_drewN | apply Kd.R_drew)); exact Kd.R_mono aq.out (fun _ hk => trivial)⟩, ⟨by (with_reducible repeat (first | apply Kd.V_alloc | apply Kd.V_drewN | apply Kd.V_drew)); exact Kd.V_mono b9.out (fun _ hk => ⟨hk.1, ⟨hk.2.2.1, ⟨hk.2.2.2.1, ⟨hk.2.2.2.2.1, hk.2.2.2.2.2⟩⟩⟩⟩)⟩, ⟨by (with_reducible repeat (first | apply Kd.V_alloc | apply Kd.V_drewN | apply Kd.V_drew)); exact Kd.V_mono aR.out (fun _ hk => ⟨hk.1, ⟨hk.2.2.1, ⟨hk.2.2.2.1, ⟨hk.2.2.2.2.1, hk.2.2.2.2.2⟩⟩⟩⟩)⟩, ⟨bk⟩, ⟨bk⟩, ⟨bk⟩, ⟨bk⟩, ⟨bw⟩⟩
     case rest =>
      clear bf
      try clear bn
      try clear aY
      try clear b6
      try clear b0
      try clear bm
      try clear bv
      obtain ⟨kq, aI, rfl, rfl, HA, HJ45, ah, af, ag, a3, a0, a1, a2, HB⟩ := hcut
      cases kq with
      | zero => exact absurd HA.out (by simp [whole_divide.j1])
      | succ kj45 =>
       have H := HA.out
       clear HA
       simp only [whole_divide.j1] at H
       by_cases cA : aI = true
       ·subst cA
        replace H := ip H
        obtain ⟨y206, hy206⟩ : ∃ y_ : List Int, y_ = (([1] : List Int)) := ⟨_, rfl⟩
        replace H : ((whole_plus.f kj45 aN y206).bind fun aU => ((whole_minus.f kj45 aw aJ).bind fun aQ => ((whole_made.f kj45 (a8 != a6) aU).bind fun b3 => ((whole_made.f kj45 a6 aQ).bind fun b7 => (some (b3.1, b3.2, b7.1, b7.2, 0)))))) = some (r1, r2, r3, r4, r5) := by first | (rw [hy206]; with_reducible exact H) | (have cU := (Option.bind_some _ _).symm.trans H; rw [hy206]; with_reducible exact cU) | (have cU := (Option.bind_some _ _).symm.trans H; with_reducible exact cU) | with_reducible exact H | (rw [hy206]; exact H) | exact H
        have bd := Aside0.mk hy206
        clear hy206
        obtain ⟨aU, A64, H⟩ := bs H
        obtain ⟨aQ, A65, H⟩ := bs H
        obtain ⟨⟨bl, bu⟩, A66, H⟩ := bs H
        obtain ⟨⟨bA, bx⟩, A67, H⟩ := bs H
        simp only [Option.some.injEq, Prod.mk.injEq] at H
        obtain ⟨rfl, rfl, rfl, rfl, rfl⟩ := H
        try go_wp2_with (first | ((with_reducible refine gd 52 rfl ?_); (try (refine gate_guard (by rfl) ?_; dsimp only)); refine Kd.R_lit (Kd.int .u32) _ 118 ?hg (N := 52) ?hd (xs := ([1] : List Int)) (inner := [.int .u32 1]) (ok := fun _ => True) (okp := fun _ => True) ?hr ?hp (fun _ hk => hk) trivial (Below.refl _ _) (Nat.le_refl _) (by simp) ?_; (case hd => rfl); (case hg => rfl); (case hr => first | (go_simp; done) | (go_simp; rfl)); (case hp => exact (Reps.one (show Kd.M (Kd.int .u32) _ _ _ 1 [.int .u32 1] from rfl) (Reps.none _ _))); intro v207 w68 aO hb hg_ bo; clear hg_ bo; (first | rw [← bd.out] at aO | (simp only [Int.reduceToNat] at aO; rw [← bd.out] at aO)); have aj := rL HB (rn aO ah); replace ah := rE ah aO hb; replace af := vE af aO hb; replace ag := vE ag aO hb; replace a3 := kB a3 hb; replace a0 := kB a0 hb; replace a1 := kB a1 hb; replace a2 := kB a2 hb; replace HB := hB HB hb; clear hb aO; obtain ⟨dc, d5, cX⟩ := vl af; cases cX; obtain ⟨bh, bi, dh⟩ := sl aj; cases dh) | ((with_reducible refine ga 80 rfl ?_); refine gc (some 53) Try.func80 #[.slice dc aN.length d5, .slice bh y206.length bi] (whole_plus.calls kj45 _ _ aN _ _ y206 aU _ (cv af) ((Kd.V_reads' af.out).2.1) (cr aj) (rl aj) A64.out) ?_; rintro e w72 ⟨v210, rfl, ao, hb⟩; refine ⟨_, rfl, ?_⟩; have ar := Aside0.mk (Kd.V_lower (Kd.V_mono (ok' := fun k_ => some k_ ≠ (.slice aH aw.length aK : Value).ownBlock ∧ some k_ ≠ (.slice bh y206.length bi : Value).ownBlock ∧ k_ ≠ au ∧ k_ ≠ ai ∧ k_ ≠ ab ∧ k_ ≠ aa) ao (fun k_ ax => ⟨(Kd.fresh' (Kd.R_lt (rb ah)) k_ ax), (Kd.fresh' (Kd.R_lt (rb aj)) k_ ax), (Kd.freshB (g := au) (o := .cells #[.bool a8, .slice az am.length aA] 25 (0, 0)) bk k_ ax), (Kd.freshB (g := ai) (o := .cells #[.bool a6, .slice ay ac.length aB] 25 (0, 0)) bk k_ ax), (Kd.freshB (g := ab) (o := .cells #[.bool false, .slice none 0 0] 25 (0, 0)) bk k_ ax), (Kd.freshB (g := aa) (o := .cells #[.bool false, .slice none 0 0] 25 (0, 0)) bk k_ ax)⟩)) (sz HB)); replace ah := rB ah hb; replace af := vB af hb; replace ag := vB ag hb; replace aj := rB aj hb; replace a3 := kB a3 hb; replace a0 := kB a0 hb; replace a1 := kB a1 hb; replace a2 := kB a2 hb; replace HB := hB HB hb; clear hb ao; obtain ⟨dm, dl, d2⟩ := vl ag; cases d2) | ((with_reducible refine ga 82 rfl ?_); refine gc (some 56) Try.func82 #[.slice aH aw.length aK, .slice dm aJ.length dl] (whole_minus.calls kj45 _ _ aw _ _ aJ aQ _ (cr ah) (rl ah) (cv ag) ((Kd.V_reads' ag.out).2.1) A65.out) ?_; rintro e w74 ⟨v213, rfl, ao, hb⟩; refine ⟨_, rfl, ?_⟩; have av := Aside0.mk (Kd.V_lower (Kd.V_mono (ok' := fun k_ => some k_ ≠ (.slice aH aw.length aK : Value).ownBlock ∧ some k_ ≠ (.slice bh y206.length bi : Value).ownBlock ∧ k_ ≠ au ∧ k_ ≠ ai ∧ k_ ≠ ab ∧ k_ ≠ aa) ao (fun k_ ax => ⟨(Kd.fresh' (Kd.R_lt (rb ah)) k_ ax), (Kd.fresh' (Kd.R_lt (rb aj)) k_ ax), (Kd.freshB (g := au) (o := .cells #[.bool a8, .slice az am.length aA] 25 (0, 0)) bk k_ ax), (Kd.freshB (g := ai) (o := .cells #[.bool a6, .slice ay ac.length aB] 25 (0, 0)) bk k_ ax), (Kd.freshB (g := ab) (o := .cells #[.bool false, .slice none 0 0] 25 (0, 0)) bk k_ ax), (Kd.freshB (g := aa) (o := .cells #[.bool false, .slice none 0 0] 25 (0, 0)) bk k_ ax)⟩)) (sz HB)); replace ah := rB ah hb; replace af := vB af hb; replace ag := vB ag hb; replace aj := rB aj hb; replace ar := vB ar hb; replace a3 := kB a3 hb; replace a0 := kB a0 hb; replace a1 := kB a1 hb; replace a2 := kB a2 hb; replace HB := hB HB hb; clear hb ao))
        replace ah := Aside0.mk (Kd.R_drew ah.out)
        replace af := Aside0.mk (Kd.V_drew af.out)
        replace ag := Aside0.mk (Kd.V_drew ag.out)
        replace aj := Aside0.mk (Kd.R_drew aj.out)
        replace ar := Aside0.mk (Kd.V_drew ar.out)
        replace av := Aside0.mk (Kd.V_drew av.out)
        replace a3 := Aside0.mk (blk_drew a3.out)
        replace a0 := Aside0.mk (blk_drew a0.out)
        replace a1 := Aside0.mk (blk_drew a1.out)
        replace a2 := Aside0.mk (blk_drew a2.out)
        replace HB := Aside0.mk (below_drew1 HB.out)
        obtain ⟨d8, cN, cR⟩ := vl ar; cases cR
        refine st 10 (fun w' => w'.cell? ⟨ai, 0, none⟩ = some (.bool a6) ∧ w'.cell? ⟨ai, 1, none⟩ = some (.slice ay ac.length aB)) [] ⟨bc a0 0, bc a0 1⟩ (fun hHeld => ?_); refine with_tabW whole_divide.tab10 whole_divide.bits10 (fun aC de => ?_)
        generalize w74.drew = w75 at ah af ag aj ar av a3 a0 a1 a2 HB hHeld ⊢
        refine pu aC 0 (some 57) ?_
        refine pu aC 1 (some 58) ?_
        refine pu aC 3 (some 60) ?_
        refine pu aC 5 (some 62) ?_
        refine tk aC de 4 (some 61) hHeld ?_
        refine on aC 2 (some 59) fun K hK => ?_
        refine go_ Try.func85 #[.bool (a8 != a6), .slice d8 aU.length cN] ?_
        with_reducible refine (whole_made.calls kj45 (a8 != a6) _ _ aU bl bu _ ?side1 ?side2 A66.out).mono ?_
        (case side1 => exact cv ar)
        (case side2 => exact (Kd.V_reads' ar.out).2.1)
        rintro e w77 ⟨v217, rfl, ao, hb⟩
        refine ⟨_, rfl, ?_⟩
        have aM := rL HB ao
        replace ah := rB ah hb
        replace af := vE af ao hb
        replace ag := vE ag ao hb
        replace aj := rB aj hb
        replace ar := vE ar ao hb
        replace av := vE av ao hb
        replace a3 := kB a3 hb
        replace a0 := kB a0 hb
        replace a1 := kB a1 hb
        replace a2 := kB a2 hb
        replace HB := hB HB hb
        clear hb ao
        obtain ⟨d3, cY, cV⟩ := vl av; cases cV
        refine hK.out _ _ ⟨bc a0 0, bc a0 1⟩ (fun hHeld => ?_)
        clear hK K
        refine nm (some 59) ?_
        refine on aC 6 (some 63) fun K hK => ?_
        refine go_ Try.func85 #[.bool a6, .slice d3 aQ.length cY] ?_
        with_reducible refine (whole_made.calls kj45 a6 _ _ aQ bA bx _ ?side1 ?side2 A67.out).mono ?_
        (case side1 => exact cv av)
        (case side2 => exact (Kd.V_reads' av.out).2.1)
        rintro e cg ⟨v221, rfl, ao, hb⟩
        refine ⟨_, rfl, ?_⟩
        have b5 := rL HB (rn ao aM)
        replace ah := rB ah hb
        replace af := vE af ao hb
        replace ag := vE ag ao hb
        replace aj := rB aj hb
        replace ar := vE ar ao hb
        replace av := vE av ao hb
        replace aM := rE aM ao hb
        replace a3 := kB a3 hb
        replace a0 := kB a0 hb
        replace a1 := kB a1 hb
        replace a2 := kB a2 hb
        replace HB := hB HB hb
        clear hb ao
        obtain ⟨cK, da, cQ⟩ := sl aM; cases cQ
        obtain ⟨dp, cM, cW⟩ := sl b5; cases cW
        refine hK.out _ _ ⟨bc a0 0, bc a0 1⟩ (fun hHeld => ?_)
        clear hK K
        refine nm (some 63) ?_
        refine on aC 7 none fun K hK => ?_
        have hs80 : cg.cell? ⟨ab, 0, none⟩ = some (.bool false) := bc a1 0
        have dO := blk_frozen a1.out 0
        have bH := ad.out
        have cz := a4.out
        have cs := a9.out
        have cn := al.out
        have bP := ap.out
        have cI := a7.out
        have hs82 : cg.cell? ⟨ab, 1, none⟩ = some (.slice none 0 0) := bc a1 1
        have dF := blk_frozen a1.out 1
        have cd := ad.out
        have bF := a4.out
        have ck := a9.out
        have cC := al.out
        have bG := ap.out
        have c0 := a7.out
        refine skip_ (w1 := ?_) (by rfl) rfl ?_ ?_
        rotate_left
        ·go_simp
         rfl
        refine hK.out _ _ ⟨(cf a4 (cf a4 hHeld.1)), (cf a4 (cf a4 hHeld.2))⟩ (fun hHeld => ?_)
        clear hK K
        refine on aC 8 none fun K hK => ?_
        have hs83 : cg.cell? ⟨aa, 0, none⟩ = some (.bool false) := bc a2 0
        have dD := blk_frozen a2.out 0
        have cG := ae.out
        have cw := a5.out
        have co := a7.out
        have bM := ak.out
        have cq := an.out
        have cy := a9.out
        have hs85 : cg.cell? ⟨aa, 1, none⟩ = some (.slice none 0 0) := bc a2 1
        have dr := blk_frozen a2.out 1
        have cm := ae.out
        have ce := a5.out
        have cJ := a7.out
        have c1 := ak.out
        have ca := an.out
        have bT := a9.out
        refine skip_ (w1 := ?_) (by rfl) rfl ?_ ?_
        rotate_left
        ·go_simp
         rfl
        refine hK.out _ _ ⟨(cf a5 (cf a5 hHeld.1)), (cf a5 (cf a5 hHeld.2))⟩ (fun hHeld => ?_)
        clear hK K
        refine pu aC 9 (some 6) ?_
        refine dn aC ?_
        try go_wp2
        refine bodyPost_ret (results_list (rs := [.cell 4 25, .cell 5 25, .tmp 6]) rfl (by simp) (.cell ab 25 #[.bool bl, .slice cK bu.length da] (0, 0) _ rfl (bp a1) Try.underlying25 rfl (by kernel_rfl) (.cell aa 25 #[.bool bA, .slice dp bx.length cM] (0, 0) _ rfl (bp a2) Try.underlying25 rfl (by kernel_rfl) (.tmp .nil)))) rfl ?_
        exact ⟨_, _, er, rf (rt (rt aM a1) a2), rf (rt (rt b5 a1) a2), bw⟩
       ·replace cA := Bool.eq_false_iff.mpr cA
        subst cA
        replace H := iq H
        obtain ⟨⟨bz, bB⟩, A86, H⟩ := bs H
        obtain ⟨⟨bq, br⟩, A87, H⟩ := bs H
        simp only [Option.some.injEq, Prod.mk.injEq] at H
        obtain ⟨rfl, rfl, rfl, rfl, rfl⟩ := H
        try go_wp2
        replace ah := Aside0.mk (Kd.R_drew ah.out)
        replace af := Aside0.mk (Kd.V_drew af.out)
        replace ag := Aside0.mk (Kd.V_drew ag.out)
        replace a3 := Aside0.mk (blk_drew a3.out)
        replace a0 := Aside0.mk (blk_drew a0.out)
        replace a1 := Aside0.mk (blk_drew a1.out)
        replace a2 := Aside0.mk (blk_drew a2.out)
        replace HB := Aside0.mk (below_drew1 HB.out)
        obtain ⟨d0, dq, df⟩ := vl af; cases df
        refine st 10 (fun w' => w'.cell? ⟨ai, 0, none⟩ = some (.bool a6) ∧ w'.cell? ⟨ai, 1, none⟩ = some (.slice ay ac.length aB)) [] ⟨bc a0 0, bc a0 1⟩ (fun hHeld => ?_); refine with_tabW whole_divide.tab10 whole_divide.bits10 (fun aC de => ?_)
        generalize wc.drew = w88 at ah af ag a3 a0 a1 a2 HB hHeld ⊢
        refine pu aC 0 (some 57) ?_
        refine pu aC 1 (some 58) ?_
        refine pu aC 3 (some 60) ?_
        refine pu aC 5 (some 62) ?_
        refine tk aC de 4 (some 61) hHeld ?_
        refine on aC 2 (some 59) fun K hK => ?_
        refine go_ Try.func85 #[.bool (a8 != a6), .slice d0 aN.length dq] ?_
        with_reducible refine (whole_made.calls kj45 (a8 != a6) _ _ aN bz bB _ ?side1 ?side2 A86.out).mono ?_
        (case side1 => exact cv af)
        (case side2 => exact (Kd.V_reads' af.out).2.1)
        rintro e w90 ⟨v225, rfl, ao, hb⟩
        refine ⟨_, rfl, ?_⟩
        have aL := rL HB ao
        replace ah := rB ah hb
        replace af := vE af ao hb
        replace ag := vE ag ao hb
        replace a3 := kB a3 hb
        replace a0 := kB a0 hb
        replace a1 := kB a1 hb
        replace a2 := kB a2 hb
        replace HB := hB HB hb
        clear hb ao
        obtain ⟨cL, d4, di⟩ := vl ag; cases di
        refine hK.out _ _ ⟨bc a0 0, bc a0 1⟩ (fun hHeld => ?_)
        clear hK K
        refine nm (some 59) ?_
        refine on aC 6 (some 63) fun K hK => ?_
        refine go_ Try.func85 #[.bool a6, .slice cL aJ.length d4] ?_
        with_reducible refine (whole_made.calls kj45 a6 _ _ aJ bq br _ ?side1 ?side2 A87.out).mono ?_
        (case side1 => exact cv ag)
        (case side2 => exact (Kd.V_reads' ag.out).2.1)
        rintro e bR ⟨v229, rfl, ao, hb⟩
        refine ⟨_, rfl, ?_⟩
        have bb := rL HB (rn ao aL)
        replace ah := rB ah hb
        replace af := vE af ao hb
        replace ag := vE ag ao hb
        replace aL := rE aL ao hb
        replace a3 := kB a3 hb
        replace a0 := kB a0 hb
        replace a1 := kB a1 hb
        replace a2 := kB a2 hb
        replace HB := hB HB hb
        clear hb ao
        obtain ⟨cS, dd, cP⟩ := sl aL; cases cP
        obtain ⟨db, dg, d6⟩ := sl bb; cases d6
        refine hK.out _ _ ⟨bc a0 0, bc a0 1⟩ (fun hHeld => ?_)
        clear hK K
        refine nm (some 63) ?_
        refine on aC 7 none fun K hK => ?_
        have hs93 : bR.cell? ⟨ab, 0, none⟩ = some (.bool false) := bc a1 0
        have dv := blk_frozen a1.out 0
        have bN := ad.out
        have cB := a4.out
        have bQ := a9.out
        have bL := al.out
        have cu := ap.out
        have cl := a7.out
        have hs95 : bR.cell? ⟨ab, 1, none⟩ = some (.slice none 0 0) := bc a1 1
        have dy := blk_frozen a1.out 1
        have cp := ad.out
        have bJ := a4.out
        have cF := a9.out
        have bU := al.out
        have cH := ap.out
        have cc := a7.out
        refine skip_ (w1 := ?_) (by rfl) rfl ?_ ?_
        rotate_left
        ·go_simp
         rfl
        refine hK.out _ _ ⟨(cf a4 (cf a4 hHeld.1)), (cf a4 (cf a4 hHeld.2))⟩ (fun hHeld => ?_)
        clear hK K
        refine on aC 8 none fun K hK => ?_
        have hs96 : bR.cell? ⟨aa, 0, none⟩ = some (.bool false) := bc a2 0
        have dC := blk_frozen a2.out 0
        have ct := ae.out
        have bW := a5.out
        have bK := a7.out
        have cj := ak.out
        have bZ := an.out
        have cx := a9.out
        have hs98 : bR.cell? ⟨aa, 1, none⟩ = some (.slice none 0 0) := bc a2 1
        have ds := blk_frozen a2.out 1
        have cD := ae.out
        have bV := a5.out
        have ch := a7.out
        have bO := ak.out
        have ci := an.out
        have cE := a9.out
        refine skip_ (w1 := ?_) (by rfl) rfl ?_ ?_
        rotate_left
        ·go_simp
         rfl
        refine hK.out _ _ ⟨(cf a5 (cf a5 hHeld.1)), (cf a5 (cf a5 hHeld.2))⟩ (fun hHeld => ?_)
        clear hK K
        refine pu aC 9 (some 6) ?_
        refine dn aC ?_
        try go_wp2
        refine bodyPost_ret (results_list (rs := [.cell 4 25, .cell 5 25, .tmp 6]) rfl (by simp) (.cell ab 25 #[.bool bz, .slice cS bB.length dd] (0, 0) _ rfl (bp a1) Try.underlying25 rfl (by kernel_rfl) (.cell aa 25 #[.bool bq, .slice db br.length dg] (0, 0) _ rfl (bp a2) Try.underlying25 rfl (by kernel_rfl) (.tmp .nil)))) rfl ?_
        exact ⟨_, _, er, rf (rt (rt aL a1) a2), rf (rt (rt bb a1) a2), bw⟩
/-! ### whole_Div: function 20 -/
def whole_Div.f (k : Nat) (a1 : Bool) (a2 : List Int) (a4 : Bool) (a3 : List Int) : Option (Bool × List Int × Int) := (whole_divide.f k a1 a2 a4 a3).bind fun a0 => (some (a0.1, a0.2.1, a0.2.2.2.2))
theorem whole_Div.mono : ∀ a0 a1 a2 a3 k, LeO (whole_Div.f k a0 a1 a2 a3) (whole_Div.f (k + 1) a0 a1 a2 a3) := by
 intro a0 a1 a2 a3 k
 unfold whole_Div.f
 repeat' first | with_reducible exact whole_divide.mono _ _ _ _ _ | with_reducible exact LeO.refl _ | with_reducible exact LeO.none _ | with_reducible refine LeO.ite ?_ ?_ | with_reducible refine LeO.bind ?_ (fun _ => ?_) | exact whole_divide.mono _ _ _ _ _ | exact LeO.none _ | refine LeO.ite ?_ ?_ | refine LeO.bind ?_ (fun _ => ?_)
theorem whole_Div.calls (k : Nat) (a9 : Bool) (an : Option Addr) (am : Nat) (a4 : List Int) (aj : Bool) (al : Option Addr) (ao : Nat) (a5 : List Int) (r1 : Bool) (r2 : List Int) (r3 : Int) (w : World) (au : Kd.C (Kd.int .u8) w an a4.length a4) (aq : a4.length ≤ am) (ap : Kd.C (Kd.int .u8) w al a5.length a5) (av : a5.length ≤ ao) (h : whole_Div.f k a9 a4 aj a5 = some (r1, r2, r3)) :
  Calls Try.prog 20 #[.agg #[.bool a9, .slice an a4.length am], .agg #[.bool aj, .slice al a5.length ao]] w fun e w' => ∃ aY : Value, e = .returned (.tuple #[.agg #[.bool r1, aY], .int .i64 r3]) ∧ Kd.R (Kd.int .u8) 5 w' w.heap.size (fun _ => True) aY r2 ∧ Below w.heap.size w w' := by
 have hu25 := Try.underlying25
 have aM := Aside0.mk au
 have aI := Aside0.mk aq
 clear au aq
 have aG := Aside0.mk ap
 have aJ := Aside0.mk av
 clear ap av
 have HB := Aside0.mk (Below.refl w.heap.size w)
 have H : ((whole_divide.f k a9 a4 aj a5).bind fun ak => (some (ak.1, ak.2.1, ak.2.2.2.2))) = some (r1, r2, r3) := h
 clear h
 obtain ⟨⟨aH, aK, aS, aO, aP⟩, A3, H⟩ := bs H
 simp only [Option.some.injEq, Prod.mk.injEq] at H
 obtain ⟨rfl, rfl, rfl⟩ := H
 go_enter Try.func20, Try.ntmps20
 go_wp2_with (first | ((with_reducible refine gd 2 rfl ?_); refine bX 2 rfl HB #[.bool a9, .slice an a4.length am] 25 ?_; intro aU w4 a0 aW hg hb; replace HB := hB HB hb; clear hb hg) | ((with_reducible refine gd 3 rfl ?_); refine bX 3 rfl HB #[.bool aj, .slice al a5.length ao] 25 ?_; intro b9 w5 a1 b3 hg hb; obtain ⟨ae, aE⟩ := nB a0 hg; replace a0 := kB a0 hb; replace HB := hB HB hb; clear hb hg) | ((with_reducible refine gd 4 rfl ?_); refine bX 4 rfl HB #[.bool false, .slice none 0 0] 25 ?_; intro aL w6 a2 aX hg hb; obtain ⟨ag, ay⟩ := nB a0 hg; obtain ⟨ac, aC⟩ := nB a1 hg; replace a0 := kB a0 hb; replace a1 := kB a1 hb; replace HB := hB HB hb; clear hb hg; have hn7 := nn ae; have hn8 := nn ag; have hcz9 := zf2 a0; have hn10 := nn ac; have aV := zf2 a1) | ((with_reducible refine ga 71 rfl ?_); refine gc (some 12) Try.func71 #[.agg #[.bool a9, .slice an a4.length am], .agg #[.bool aj, .slice al a5.length ao]] (whole_divide.calls k a9 _ _ a4 aj _ _ a5 aH aK aS aO aP _ (cb aM HB) aI.out (cb aG HB) aJ.out A3.out) ?_; rintro e w12 ⟨v236, v240, rfl, b2, b4, hb⟩; refine ⟨_, rfl, ?_⟩; have a3 := rL HB b2; have a7 := rL HB b4; replace a0 := kB a0 hb; replace a1 := kB a1 hb; replace a2 := kB a2 hb; replace HB := hB HB hb; clear hb b2 b4) | ((with_reducible refine gd 6 rfl ?_); refine bX 6 rfl HB #[.bool false, .slice none 0 0] 25 ?_; intro b1 w13 a6 b0 hg hb; obtain ⟨aA, af⟩ := nB a0 hg; obtain ⟨aB, ah⟩ := nB a1 hg; obtain ⟨aw, ai⟩ := nB a2 hg; replace a3 := rB a3 hb; replace a7 := rB a7 hb; replace a0 := kB a0 hb; replace a1 := kB a1 hb; replace a2 := kB a2 hb; replace HB := hB HB hb; clear hb hg) | ((with_reducible refine gd 7 rfl ?_); refine bX 7 rfl HB #[.bool false, .slice none 0 0] 25 ?_; intro b5 w14 ar b7 hg hb; obtain ⟨ax, a8⟩ := nB a0 hg; obtain ⟨az, ad⟩ := nB a1 hg; obtain ⟨aD, aa⟩ := nB a2 hg; obtain ⟨ab, aF⟩ := nB a6 hg; replace a3 := rB a3 hb; replace a7 := rB a7 hb; replace a0 := kB a0 hb; replace a1 := kB a1 hb; replace a2 := kB a2 hb; replace a6 := kB a6 hb; replace HB := hB HB hb; clear hb hg; have hn15 := nn af; have hn16 := nn ah; have hn17 := nn ai; have hn18 := nn ab; have aZ := zf2 a6; obtain ⟨aN, aT, aR⟩ := sl a3; cases aR; have hn21 := nn a8; have hn22 := nn ad; have hn23 := nn aa; have b8 := zf2 ar; obtain ⟨Ao25, co25, aQ⟩ := sl a7; cases aQ; have b6 := zf2 a2))
 refine bodyPost_ret (results_ct rfl _ _ aL 25 #[.bool aH, .slice aN aK.length aT] (0, 0) _ rfl (bp a2) Try.underlying25 rfl (by kernel_rfl)) rfl ?_
 exact ⟨_, er, rf (rt (rt (rt a3 a6) ar) a2), bw⟩
/-! ### whole_Mod: function 22 -/
def whole_Mod.f (k : Nat) (a1 : Bool) (a2 : List Int) (a4 : Bool) (a3 : List Int) : Option (Bool × List Int × Int) := (whole_divide.f k a1 a2 a4 a3).bind fun a0 => (some (a0.2.2.1, a0.2.2.2.1, a0.2.2.2.2))
theorem whole_Mod.mono : ∀ a0 a1 a2 a3 k, LeO (whole_Mod.f k a0 a1 a2 a3) (whole_Mod.f (k + 1) a0 a1 a2 a3) := by
 intro a0 a1 a2 a3 k
 unfold whole_Mod.f
 repeat' first | with_reducible exact whole_divide.mono _ _ _ _ _ | with_reducible exact LeO.refl _ | with_reducible exact LeO.none _ | with_reducible refine LeO.ite ?_ ?_ | with_reducible refine LeO.bind ?_ (fun _ => ?_) | exact whole_divide.mono _ _ _ _ _ | exact LeO.none _ | refine LeO.ite ?_ ?_ | refine LeO.bind ?_ (fun _ => ?_)
theorem whole_Mod.calls (k : Nat) (a9 : Bool) (an : Option Addr) (am : Nat) (a4 : List Int) (aj : Bool) (al : Option Addr) (ao : Nat) (a5 : List Int) (r1 : Bool) (r2 : List Int) (r3 : Int) (w : World) (au : Kd.C (Kd.int .u8) w an a4.length a4) (aq : a4.length ≤ am) (ap : Kd.C (Kd.int .u8) w al a5.length a5) (av : a5.length ≤ ao) (h : whole_Mod.f k a9 a4 aj a5 = some (r1, r2, r3)) :
  Calls Try.prog 22 #[.agg #[.bool a9, .slice an a4.length am], .agg #[.bool aj, .slice al a5.length ao]] w fun e w' => ∃ aW : Value, e = .returned (.tuple #[.agg #[.bool r1, aW], .int .i64 r3]) ∧ Kd.R (Kd.int .u8) 5 w' w.heap.size (fun _ => True) aW r2 ∧ Below w.heap.size w w' := by
 have hu25 := Try.underlying25
 have aM := Aside0.mk au
 have aH := Aside0.mk aq
 clear au aq
 have aG := Aside0.mk ap
 have aI := Aside0.mk av
 clear ap av
 have HB := Aside0.mk (Below.refl w.heap.size w)
 have H : ((whole_divide.f k a9 a4 aj a5).bind fun ak => (some (ak.2.2.1, ak.2.2.2.1, ak.2.2.2.2))) = some (r1, r2, r3) := h
 clear h
 obtain ⟨⟨aR, aP, aL, aJ, aO⟩, A3, H⟩ := bs H
 simp only [Option.some.injEq, Prod.mk.injEq] at H
 obtain ⟨rfl, rfl, rfl⟩ := H
 go_enter Try.func22, Try.ntmps22
 go_wp2_with (first | ((with_reducible refine gd 2 rfl ?_); refine bX 2 rfl HB #[.bool a9, .slice an a4.length am] 25 ?_; intro b1 w4 a0 b8 hg hb; replace HB := hB HB hb; clear hb hg) | ((with_reducible refine gd 3 rfl ?_); refine bX 3 rfl HB #[.bool aj, .slice al a5.length ao] 25 ?_; intro aV w5 a1 aX hg hb; obtain ⟨aa, aD⟩ := nB a0 hg; replace a0 := kB a0 hb; replace HB := hB HB hb; clear hb hg) | ((with_reducible refine gd 4 rfl ?_); refine bX 4 rfl HB #[.bool false, .slice none 0 0] 25 ?_; intro aK w6 a2 b9 hg hb; obtain ⟨ag, aF⟩ := nB a0 hg; obtain ⟨ad, aA⟩ := nB a1 hg; replace a0 := kB a0 hb; replace a1 := kB a1 hb; replace HB := hB HB hb; clear hb hg; have hn7 := nn aa; have hn8 := nn ag; have hcz9 := zf2 a0; have hn10 := nn ad; have aU := zf2 a1) | ((with_reducible refine ga 71 rfl ?_); refine gc (some 12) Try.func71 #[.agg #[.bool a9, .slice an a4.length am], .agg #[.bool aj, .slice al a5.length ao]] (whole_divide.calls k a9 _ _ a4 aj _ _ a5 aR aP aL aJ aO _ (cb aM HB) aH.out (cb aG HB) aI.out A3.out) ?_; rintro e w12 ⟨v365, v369, rfl, b3, b4, hb⟩; refine ⟨_, rfl, ?_⟩; have a6 := rL HB b3; have a3 := rL HB b4; replace a0 := kB a0 hb; replace a1 := kB a1 hb; replace a2 := kB a2 hb; replace HB := hB HB hb; clear hb b3 b4) | ((with_reducible refine gd 6 rfl ?_); refine bX 6 rfl HB #[.bool false, .slice none 0 0] 25 ?_; intro b7 w13 a7 b0 hg hb; obtain ⟨aB, ab⟩ := nB a0 hg; obtain ⟨ax, ae⟩ := nB a1 hg; obtain ⟨az, ac⟩ := nB a2 hg; replace a6 := rB a6 hb; replace a3 := rB a3 hb; replace a0 := kB a0 hb; replace a1 := kB a1 hb; replace a2 := kB a2 hb; replace HB := hB HB hb; clear hb hg) | ((with_reducible refine gd 7 rfl ?_); refine bX 7 rfl HB #[.bool false, .slice none 0 0] 25 ?_; intro aY w14 ar b2 hg hb; obtain ⟨aw, a8⟩ := nB a0 hg; obtain ⟨aC, ah⟩ := nB a1 hg; obtain ⟨ay, ai⟩ := nB a2 hg; obtain ⟨af, aE⟩ := nB a7 hg; replace a6 := rB a6 hb; replace a3 := rB a3 hb; replace a0 := kB a0 hb; replace a1 := kB a1 hb; replace a2 := kB a2 hb; replace a7 := kB a7 hb; replace HB := hB HB hb; clear hb hg; have hn15 := nn ab; have hn16 := nn ae; have hn17 := nn ac; have hn18 := nn af; have aZ := zf2 a7; obtain ⟨Ao20, co20, aS⟩ := sl a6; cases aS; have hn21 := nn a8; have hn22 := nn ah; have hn23 := nn ai; have b6 := zf2 ar; obtain ⟨aN, aT, aQ⟩ := sl a3; cases aQ; have b5 := zf2 a2))
 refine bodyPost_ret (results_ct rfl _ _ aK 25 #[.bool aL, .slice aN aJ.length aT] (0, 0) _ rfl (bp a2) Try.underlying25 rfl (by kernel_rfl)) rfl ?_
 exact ⟨_, er, rf (rt (rt (rt a3 a7) ar) a2), bw⟩
end Go.Proofs.Ytfjbhccapgnkiaa.P
