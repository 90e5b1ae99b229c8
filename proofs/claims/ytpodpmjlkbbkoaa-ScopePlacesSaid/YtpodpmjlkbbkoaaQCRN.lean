import Derived.Test.YtpodpmjlkbbkoaaQCRD1
import Derived.Lib.OthersKept
import Derived.Lib.TrimU
import Derived.Deep.LoopGhost
import Derived.Test.YtpodpmjlkbbkoaaQCRD2
import Derived.Test.YtpodpmjlkbbkoaaQCRD7
import Derived.Test.YtpodpmjlkbbkoaaQCWMore
import Derived.Test.YtpodpmjlkbbkoaaQCZ2
import Derived.Test.YtpodpmjlkbbkoaaQCL10
set_option linter.all false
namespace Go.Proofs.Ytpodpmjlkbbkoaa.P
open Go.RowKit Go.Proofs.YtpodpmjlkbbkoaaW.PrintWords Go.Proofs.YtpodpmjlkbbkoaaW.PrintLast Go.Proofs.YtpodpmjlkbbkoaaW.PrintMore
attribute [local go_sem] max2_int min2_int max_two min_two max_three min_three max_four min_four
set_option maxHeartbeats 16000000
set_option maxRecDepth 100000
def oddR (r : Nat) : Bool := decide ((r : Int) < 48) || decide ((r : Int) > 57)
def idxF (s : ByteArray) : Nat → Nat → Int
 | 0, _ => -1
 | f + 1, pos => if pos < s.size then (if oddR (Utf8.decode s pos).1 = true then (pos : Int) else idxF s f (pos + (Utf8.decode s pos).2)) else -1
theorem idxF_end (s : ByteArray) (f pos : Nat) (h : ¬ pos < s.size) : idxF s f pos = -1 := by cases f <;> simp [idxF, h]
theorem odd_calls (r : Nat) (w : World) : Calls Try.prog 52 #[.int .i32 (r : Int)] w fun e w' => e = .returned (.bool (oddR r)) ∧ Drawn0 w w' := by
 by_cases h : (r : Int) < 48
 ·have e : oddR r = true := by simp [oddR, h]
  rw [e]
  go_enter Try.func52, Try.ntmps52
  go_wp2
  go_ret
  exact ⟨rfl, Drawn0.refl _⟩
 ·have e : oddR r = decide ((57 : Int) < (r : Int)) := by simp only [oddR, h, decide_false, Bool.false_or]
  rw [e]
  go_enter Try.func52, Try.ntmps52
  go_wp2
  go_ret
  exact ⟨rfl, Drawn0.refl _⟩
theorem strings_indexFunc.calls (s : ByteArray) (w : World) : Calls Try.prog 66 #[.string s, .func (.func 52) #[] #[], .bool true] w fun e w' => e = .returned (.int .i64 (idxF s s.size 0)) ∧ Below w.heap.size w w' := by
 go_enter Try.func66, Try.ntmps66
 go_wp2
 go_loopg [] s.size (fun gf wx => ∃ pos : Nat, wx.heap[w.heap.size]? = some (.stringIter s pos) ∧ Below w.heap.size w wx ∧ idxF s gf pos = idxF s s.size 0 ∧ s.size ≤ pos + gf)
 case atStart => exact ⟨0, World.iter_heap w s 0, (Below.refl _ w).alloc (Nat.le_refl _) _, rfl, by omega⟩
 case round =>
  obtain ⟨pos, hit, hbw, hleft, hfu⟩ := hrel
  by_cases hps : pos < s.size
  ·obtain ⟨g', rfl⟩ : ∃ g', gk = g' + 1 := ⟨gk - 1, by omega⟩
   have hnx : ∀ ty, (Instr.next (.pointer (some ⟨w.heap.size, 0, none⟩)) true ty).run Try.prog wr = _ := fun ty => Lib.run_next_any_at wr w.heap.size s pos ty hit hps
   have hwd := Lib.width_pos s pos
   obtain ⟨R, hR⟩ : ∃ R, (Utf8.decode s pos).1 = R := ⟨_, rfl⟩
   obtain ⟨K, hK⟩ : ∃ K, (Utf8.decode s pos).2 = K := ⟨_, rfl⟩
   simp only [idxF, hps, if_true, hR, hK] at hleft
   rw [hR, hK] at hnx
   rw [hK] at hwd
   have hit2 := Lib.iterAt_heap wr w.heap.size s pos (pos + K) hit
   have hbw2 := Lib.below_iterAt hbw (k := w.heap.size) (Nat.le_refl _) s (pos + K)
   obtain ⟨W, hWd⟩ : ∃ W, wr.iterAt w.heap.size s (pos + K) = W := ⟨_, rfl⟩
   rw [hWd] at hnx hit2 hbw2
   have cS := odd_calls R W
   cases hsp : oddR R <;> rw [hsp] at cS hleft <;> simp only [if_true, Bool.false_eq_true, if_false] at hleft
   ·go_wp2_with (go_at_call 52; refine cS.mono ?_; rintro e W' ⟨rfl, ⟨q, rfl⟩⟩)
    go_roundg g'
    case measure => omega
    case rel => exact ⟨pos + K, hit2, (by apply pw_below_drewN; exact hbw2), hleft, by omega⟩
   ·go_wp2_with (go_at_call 52; refine cS.mono ?_; rintro e W' ⟨rfl, ⟨q, rfl⟩⟩)
    go_ret
    exact ⟨by rw [← hleft] <;> rfl, (by apply pw_below_drewN; exact hbw2)⟩
  ·have hnx : ∀ ty, (Instr.next (.pointer (some ⟨w.heap.size, 0, none⟩)) true ty).run Try.prog wr = _ := fun ty => Lib.run_next_end_at wr w.heap.size s pos ty hit hps
   rw [idxF_end s gk pos hps] at hleft
   go_wp2
   go_ret
   exact ⟨by rw [← hleft] <;> rfl, hbw⟩
def strings_IndexFunc.f (s : ByteArray) : Option Int := some (idxF s s.size 0)
theorem strings_IndexFunc.calls (s : ByteArray) (r : Int) (w : World) (h : strings_IndexFunc.f s = some r) : Calls Try.prog 53 #[.string s, .func (.func 52) #[] #[]] w fun e w' => e = .returned (.int .i64 r) ∧ Below w.heap.size w w' := by
 have e : idxF s s.size 0 = r := Option.some.inj h
 subst e
 obtain ⟨I, hI⟩ : ∃ I, idxF s s.size 0 = I := ⟨_, rfl⟩
 have cI := strings_indexFunc.calls s w
 rw [hI] at cI ⊢
 go_enter Try.func53, Try.ntmps53
 go_wp2_with (go_at_call 66; refine cI.mono ?_; rintro e w' ⟨rfl, hb⟩)
 go_ret
 exact ⟨rfl, hb⟩
end Go.Proofs.Ytpodpmjlkbbkoaa.P
namespace Go.Proofs.Ytpodpmjlkbbkoaa.P
open Go.RowKit Go.Proofs.YtpodpmjlkbbkoaaW.PrintWords Go.Proofs.YtpodpmjlkbbkoaaW.PrintLast Go.Proofs.YtpodpmjlkbbkoaaW.PrintMore
attribute [local go_sem] max2_int min2_int max_two min_two max_three min_three max_four min_four
def bytesL (s : ByteArray) : List Int := s.data.toList.map fun b => ((b.toNat : Nat) : Int)
theorem bytesL_length (s : ByteArray) : (bytesL s).length = s.size := by simp [bytesL]
theorem conv_run (W : World) (s : ByteArray) (l : List Int) (hl : l = bytesL s) : (convert 9 90 (.string s)).run Try.prog W = .ok (.slice (some ⟨W.heap.size, 0, none⟩) l.length (grownCap W s.size 0 5)) (Lib.bytesWorld W 5 s) := by
 have hcv := Lib.run_convert_string_bytes (P := Try.prog) W 9 90 5 s Try.underlying9 Try.underlying90 Try.underlying5
 have hln : l.length = s.size := by rw [hl]; exact bytesL_length s
 rw [hln]; exact hcv
theorem conv_below (W : World) (s : ByteArray) : Below W.heap.size W (Lib.bytesWorld W 5 s) := ⟨rfl, rfl, rfl, by rw [Lib.bytesWorld_size]; omega, fun j hj => Lib.bytesWorld_at_old W 5 s j hj⟩
theorem conv_C (W : World) (s : ByteArray) (l : List Int) (hl : l = bytesL s) (hs : l.length ≤ 140737488351232) : Kd.C (Kd.int .u8) (Lib.bytesWorld W 5 s) (some ⟨W.heap.size, 0, none⟩) l.length l := by
 have hln : l.length = s.size := by rw [hl]; exact bytesL_length s
 refine Kd.C_of_reads (d := (0 : Int)) (h1 := fun _ => rfl) ⟨rfl, by omega, fun _ => ⟨_, rfl, fun j hj => ?_⟩⟩
 rw [Addr.add_lit, Nat.zero_add, Lib.bytesWorld_cell W 5 s j (by omega), hl]
 have hj2 : j < s.data.toList.length := by simpa using (by omega : j < s.size)
 obtain ⟨b, hb⟩ : ∃ b, s.data[j]? = some b := ⟨_, Array.getElem?_eq_getElem (by simpa using hj2)⟩
 simp [bytesL, List.getD, hb]
mutual
def whole_Read.j0 : Nat → ByteArray → List Int → Bool → Bool → Option (Bool × List Int × Int)
 | 0, _, _, _, _ => none
 | k + 1, x0, x1, x5, x32 => if x32 = true then (some (false, ([] : List Int), 11)) else (if (x0.size : Int) > 400 then (some (false, ([] : List Int), 24)) else (whole_Read.l0 k x5 ([] : List Int) x1 (x1.length : Int) 0))
def whole_Read.l0 : Nat → Bool → List Int → List Int → Int → Int → Option (Bool × List Int × Int)
 | 0, _, _, _, _, _ => none
 | k + 1, x5, x7, x39, x40, x41 => if x41 < x40 then (if 0 ≤ x41 then (if x41 < (x39.length : Int) then ((whole_times.f k x7 (([10] : List Int))).bind fun t388 => ((whole_words_trim.f k (([((rd x39 x41) - 48) % 256] : List Int))).bind fun t394 => ((whole_plus.f k t388 t394).bind fun t397 => (whole_Read.l0 k x5 t397 x39 x40 (wrap64 (x41 + 1)))))) else (none)) else (none)) else ((whole_fits.f k x5 x7).bind fun bt400 => (some (bt400.1, bt400.2.1, bt400.2.2)))
end
def whole_Read.f (k : Nat) (a0 : ByteArray) (l1 : List Int) : Option (Bool × List Int × Int) := (strings_CutPrefix.f a0 (⟨#[45]⟩ : ByteArray)).bind fun bt381 => (if bt381.1.toList = ([] : List UInt8) then (whole_Read.j0 k a0 l1 bt381.2 true) else ((strings_IndexFunc.f bt381.1).bind fun t383 => (if t383 ≥ 0 then (whole_Read.j0 k a0 l1 bt381.2 true) else (if 0 < (bt381.1.size : Int) then (if (bt bt381.1 0) = 48 then (whole_Read.j0 k a0 l1 bt381.2 (decide ((a0.size : Int) > 1))) else (whole_Read.j0 k a0 l1 bt381.2 false)) else (none)))))
theorem whole_Read.mono_l : ∀ k, (∀ y0 y1 y2 y3, LeO (whole_Read.j0 k y0 y1 y2 y3) (whole_Read.j0 (k + 1) y0 y1 y2 y3)) ∧ (∀ y0 y1 y2 y3 y4, LeO (whole_Read.l0 k y0 y1 y2 y3 y4) (whole_Read.l0 (k + 1) y0 y1 y2 y3 y4))
 | 0 => ⟨fun _ _ _ _ r h => by simp [whole_Read.j0] at h, fun _ _ _ _ _ r h => by simp [whole_Read.l0] at h⟩
 | k + 1 => by
  obtain ⟨ih0, ih1⟩ := whole_Read.mono_l k
  refine ⟨?_, ?_⟩
  ·intro y0 y1 y2 y3
   unfold whole_Read.j0
   repeat' first | with_reducible exact ih0 _ _ _ _ | with_reducible exact ih1 _ _ _ _ _ | with_reducible exact whole_fits.mono _ _ _ | with_reducible exact whole_plus.mono _ _ _ | with_reducible exact whole_times.mono _ _ _ | with_reducible exact whole_words_trim.mono _ _ | with_reducible exact LeO.refl _ | with_reducible exact LeO.none _ | with_reducible refine LeO.ite ?_ ?_ | with_reducible refine LeO.bind ?_ (fun _ => ?_) | exact ih0 _ _ _ _ | exact ih1 _ _ _ _ _ | exact whole_fits.mono _ _ _ | exact whole_plus.mono _ _ _ | exact whole_times.mono _ _ _ | exact whole_words_trim.mono _ _ | exact LeO.none _ | refine LeO.ite ?_ ?_ | refine LeO.bind ?_ (fun _ => ?_)
  ·intro y0 y1 y2 y3 y4
   unfold whole_Read.l0
   repeat' first | with_reducible exact ih0 _ _ _ _ | with_reducible exact ih1 _ _ _ _ _ | with_reducible exact whole_fits.mono _ _ _ | with_reducible exact whole_plus.mono _ _ _ | with_reducible exact whole_times.mono _ _ _ | with_reducible exact whole_words_trim.mono _ _ | with_reducible exact LeO.refl _ | with_reducible exact LeO.none _ | with_reducible refine LeO.ite ?_ ?_ | with_reducible refine LeO.bind ?_ (fun _ => ?_) | exact ih0 _ _ _ _ | exact ih1 _ _ _ _ _ | exact whole_fits.mono _ _ _ | exact whole_plus.mono _ _ _ | exact whole_times.mono _ _ _ | exact whole_words_trim.mono _ _ | exact LeO.none _ | refine LeO.ite ?_ ?_ | refine LeO.bind ?_ (fun _ => ?_)
theorem whole_Read.mono : ∀ a0 a1 k, LeO (whole_Read.f k a0 a1) (whole_Read.f (k + 1) a0 a1) := by
 intro a0 a1 k
 obtain ⟨ih0, ih1⟩ := whole_Read.mono_l k
 unfold whole_Read.f
 repeat' first | with_reducible exact ih0 _ _ _ _ | with_reducible exact ih1 _ _ _ _ _ | with_reducible exact whole_fits.mono _ _ _ | with_reducible exact whole_plus.mono _ _ _ | with_reducible exact whole_times.mono _ _ _ | with_reducible exact whole_words_trim.mono _ _ | with_reducible exact LeO.refl _ | with_reducible exact LeO.none _ | with_reducible refine LeO.ite ?_ ?_ | with_reducible refine LeO.bind ?_ (fun _ => ?_) | exact ih0 _ _ _ _ | exact ih1 _ _ _ _ _ | exact whole_fits.mono _ _ _ | exact whole_plus.mono _ _ _ | exact whole_times.mono _ _ _ | exact whole_words_trim.mono _ _ | exact LeO.none _ | refine LeO.ite ?_ ?_ | refine LeO.bind ?_ (fun _ => ?_)
theorem whole_Read.calls (k : Nat) (a0 : ByteArray) (l1 : List Int) (r1 : Bool) (r2 : List Int) (r3 : Int) (w : World) (hlen : l1.length ≤ 140737488351232) (hl1 : ∀ t b, strings_CutPrefix.f a0 (⟨#[45]⟩ : ByteArray) = some (t, b) → l1 = bytesL t) (h : whole_Read.f k a0 l1 = some (r1, r2, r3)) :
  Calls Try.prog 43 #[.string a0] w fun e w' => ∃ v1_ : Value, e = .returned (.tuple #[.agg #[.bool r1, v1_], .int .i64 r3]) ∧ Kd.R (Kd.int .u8) 5 w' w.heap.size (fun _ => True) v1_ r2 ∧ Below w.heap.size w w' := by
 have hu25 := Try.underlying92
 have HLEN := Aside0.mk hlen
 have HL1 := Aside0.mk hl1
 clear hlen hl1
 have HB := Aside0.mk (Below.refl w.heap.size w)
 have H : ((strings_CutPrefix.f a0 (⟨#[45]⟩ : ByteArray)).bind fun bt381 => (if bt381.1.toList = ([] : List UInt8) then (whole_Read.j0 k a0 l1 bt381.2 true) else ((strings_IndexFunc.f bt381.1).bind fun y => (if y ≥ 0 then (whole_Read.j0 k a0 l1 bt381.2 true) else (if 0 < (bt381.1.size : Int) then (if (bt bt381.1 0) = 48 then (whole_Read.j0 k a0 l1 bt381.2 (decide ((a0.size : Int) > 1))) else (whole_Read.j0 k a0 l1 bt381.2 false)) else (none)))))) = some (r1, r2, r3) := h
 clear h
 replace H := Option.bind_eq_some_iff.mp H
 obtain ⟨⟨c, r⟩, c1, H⟩ := H
 replace H : (if c.toList = ([] : List UInt8) then (whole_Read.j0 k a0 l1 r true) else ((strings_IndexFunc.f c).bind fun y => (if y ≥ 0 then (whole_Read.j0 k a0 l1 r true) else (if 0 < (c.size : Int) then (if (bt c 0) = 48 then (whole_Read.j0 k a0 l1 r (decide ((a0.size : Int) > 1))) else (whole_Read.j0 k a0 l1 r false)) else (none))))) = some (r1, r2, r3) := H
 have HE := Aside0.mk (HL1.out _ _ c1)
 clear HL1
 have A3 := Aside0.mk c1
 clear c1
 have c2 := Aside0.mk H
 clear H
 go_enter Try.func43, Try.ntmps43
 go_upto_region 3 with (first | ((with_reducible refine gd 2 rfl ?_); refine bX 2 rfl HB #[.bool false, .slice none 0 0] 92 ?_; intro m w5 a f3 hg l; replace HB := hB HB l; clear l hg) | ((with_reducible refine ga 51 rfl ?_); refine gc (some 12) Try.func51 #[.string a0, .string (⟨#[45]⟩ : ByteArray)] (strings_CutPrefix.calls a0 (⟨#[45]⟩ : ByteArray) c r _ A3.out) ?_; rintro e w' ⟨rfl, ⟨nd, rfl⟩⟩; refine ⟨_, rfl, ?_⟩))
 (try simp only [Act.put, List.setIfInBounds_toArray, List.set_cons_zero, List.set_cons_succ])
 go_cut [32] (fun f4 wc => ∃ (kq : Nat) (X : Bool), f4 = .bool X ∧ Aside0 (whole_Read.j0 kq a0 l1 r X = some (r1, r2, r3)) ∧ Aside0 (kq ≤ k) ∧ Aside0 (wc.heap[m]? = some (.cells #[.bool false, (.slice none 0 0)] 92 (0, 0))) ∧ Aside0 (Below w.heap.size w wc))
 case first =>
  have H := c2.out
  clear c2
  by_cases c6 : c.toList = ([] : List UInt8)
  ·rw [if_pos c6] at H
   have E : (c.toList == ([] : List UInt8)) = true := beq_iff_eq.mpr c6
   have d0 : (c.toList != ([] : List UInt8)) = false := bne_eq_false_iff_eq.mpr c6
   clear c6
   (first | rw [E] | (simp only [i64_w, i32_w]; rw [E]) | skip)
   have H' := Aside0.mk H
   clear H
   go_wp2
   go_meet
   case rel => exact ⟨_, (true), sd, H', ⟨le_⟩, ⟨bk⟩, ⟨bw⟩⟩
  ·rw [if_neg c6] at H
   have E : (c.toList == ([] : List UInt8)) = false := beq_eq_false_iff_ne.mpr c6
   have d0 : (c.toList != ([] : List UInt8)) = true := bne_iff_ne.mpr c6
   (first | rw [E] | (simp only [i64_w, i32_w]; rw [E]) | skip)
   obtain ⟨y, A7, H⟩ := bs H
   by_cases c8 : y ≥ 0
   ·rw [if_pos c8] at H
    have d1 : decide (0 ≤ y) = true := decide_eq_true c8
    clear c8
    have H' := Aside0.mk H
    clear H
    go_wp2_with (first | (go_at_call 53; (with_reducible refine (strings_IndexFunc.calls c y _ A7.out).mono ?_); rintro e w9 ⟨rfl, l⟩; replace a := kB a l; replace HB := hB HB l; clear l))
    go_meet
    case rel => exact ⟨_, (true), sd, H', ⟨le_⟩, ⟨bk⟩, ⟨bw⟩⟩
   ·rw [if_neg c8] at H
    have d1 : decide (0 ≤ y) = false := decide_eq_false c8
    clear c8
    by_cases b6 : 0 < (c.size : Int)
    ·rw [if_pos b6] at H
     have f5 : decide (0 < (c.size : Int)) = true := decide_eq_true b6
     have f6 : decide (0 < c.size) = true := decide_eq_true (by omega)
     clear b6
     by_cases L : (bt c 0) = 48
     ·rw [if_pos L] at H
      have c3 : ((bt c 0) == 48) = true := beq_iff_eq.mpr L
      have c4 : ((bt c 0) != 48) = false := bne_eq_false_iff_eq.mpr L
      clear L
      have H' := Aside0.mk H
      clear H
      go_wp2_with (first | (go_at_call 53; (with_reducible refine (strings_IndexFunc.calls c y _ A7.out).mono ?_); rintro e h1 ⟨rfl, l⟩; replace a := kB a l; replace HB := hB HB l; clear l; have c5 : 0 ≤ (0 : Int) := (by omega); have a1 : 0 < c.size := (by have : (0 : Int) < (c.size : Int) := of_decide_eq_true asm; omega); have hx11 : ∀ h : 0 < c.size, ((c[0]'h).toNat : Int) = bt c 0 := bt_at c 0; clear c5; have qi11 : (0 < (c.size : Int)) = True := eq_true (of_decide_eq_true asm); replace a1 := eq_true a1))
      go_meet
      case rel => exact ⟨_, (decide ((a0.size : Int) > 1)), sd, H', ⟨le_⟩, ⟨bk⟩, ⟨bw⟩⟩
     ·rw [if_neg L] at H
      have c3 : ((bt c 0) == 48) = false := beq_eq_false_iff_ne.mpr L
      have c4 : ((bt c 0) != 48) = true := bne_iff_ne.mpr L
      have H' := Aside0.mk H
      clear H
      go_wp2_with (first | (go_at_call 53; (with_reducible refine (strings_IndexFunc.calls c y _ A7.out).mono ?_); rintro e h2 ⟨rfl, l⟩; replace a := kB a l; replace HB := hB HB l; clear l; have c5 : 0 ≤ (0 : Int) := (by omega); have a1 : 0 < c.size := (by have : (0 : Int) < (c.size : Int) := of_decide_eq_true asm; omega); have hx11 : ∀ h : 0 < c.size, ((c[0]'h).toNat : Int) = bt c 0 := bt_at c 0; clear c5; have qi11 : (0 < (c.size : Int)) = True := eq_true (of_decide_eq_true asm); replace a1 := eq_true a1))
      go_meet
      case rel => exact ⟨_, (false), sd, H', ⟨le_⟩, ⟨bk⟩, ⟨bw⟩⟩
    ·rw [if_neg b6] at H
     exact absurd H (by simp)
 case rest =>
  clear c2
  obtain ⟨kq, X, rfl, HA, d2, a, HB⟩ := hcut
  cases kq with
  | zero => exact absurd HA.out (by simp [whole_Read.j0])
  | succ kj3 =>
   have H := HA.out
   clear HA
   simp only [whole_Read.j0] at H
   by_cases a2 : X = true
   ·subst a2
    replace H := ip H
    simp only [Option.some.injEq, Prod.mk.injEq] at H
    obtain ⟨rfl, rfl, rfl⟩ := H
    have hcz16 := zf2 a
    go_wp2
    refine bodyPost_ret (results_ct rfl _ _ m 92 #[.bool false, .slice none 0 0] (0, 0) _ rfl (bp a) Try.underlying92 rfl (by kernel_rfl)) rfl ?_
    exact ⟨_, er, nl, bw⟩
   ·replace a2 := Bool.eq_false_iff.mpr a2
    subst a2
    replace H := iq H
    by_cases P : (a0.size : Int) > 400
    ·rw [if_pos P] at H
     have a3 : decide (400 < (a0.size : Int)) = true := decide_eq_true P
     have a4 : decide (400 < a0.size) = true := decide_eq_true (by omega)
     clear P
     simp only [Option.some.injEq, Prod.mk.injEq] at H
     obtain ⟨rfl, rfl, rfl⟩ := H
     have hcz18 := zf2 a
     go_wp2
     refine bodyPost_ret (results_ct rfl _ _ m 92 #[.bool false, .slice none 0 0] (0, 0) _ rfl (bp a) Try.underlying92 rfl (by kernel_rfl)) rfl ?_
     exact ⟨_, er, nl, bw⟩
    ·rw [if_neg P] at H
     have a3 : decide (400 < (a0.size : Int)) = false := decide_eq_false P
     have a4 : decide (400 < a0.size) = false := decide_eq_false (by omega)
     clear P
     have H' := Aside0.mk H
     clear H
     have hcv := fun W : World => conv_run W c l1 HE.out
     go_wp2
     clear hcv
     obtain ⟨d3, hw20⟩ : ∃ W_, W_ = Lib.bytesWorld wc 5 c := ⟨_, rfl⟩
     obtain ⟨g20, hg20⟩ : ∃ g_, g_ = wc.heap.size := ⟨_, rfl⟩
     rw [← hw20, ← hg20]
     have HX := Aside0.mk (show Kd.C (Kd.int .u8) d3 (some ⟨g20, 0, none⟩) l1.length l1 from by rw [hw20, hg20]; exact conv_C wc c l1 HE.out HLEN.out)
     have l : Below wc.heap.size wc d3 := by rw [hw20]; exact conv_below wc c
     replace a := Aside0.mk (blk_below a.out l)
     replace HB := Aside0.mk (below_step HB.out l)
     clear l hw20 hg20
     go_loopg [7, 41] kj3 (fun kq v7 f7 w' => ∃ (A : List Int) (d : Int), f7 = .int .i64 d ∧ Aside0 (whole_Read.l0 kq r A l1 (l1.length : Int) d = some (r1, r2, r3)) ∧ Aside0 (kq ≤ kj3) ∧ Aside0 (Kd.V (Kd.int .u32) 105 w' w.heap.size (fun k_ => k_ ≠ m) v7 A) ∧ Aside0 (w'.heap[m]? = some (.cells #[.bool false, (.slice none 0 0)] 92 (0, 0))) ∧ Aside0 (Below w.heap.size w w') ∧ Aside0 (Kd.C (Kd.int .u8) w' (some ⟨g20, 0, none⟩) l1.length l1))
     case atStart => exact ⟨(([] : List Int)), (0), sd, H', ⟨Nat.le_refl _⟩, ⟨Kd.V_nil _ _ _ _ _⟩, ⟨bk⟩, ⟨bw⟩, ⟨by (with_reducible repeat (first | refine Kd.C_drewN ?_ _ | refine Kd.C_drew ?_ | refine Kd.C_alloc ?_ _)); exact HX.out⟩⟩
     case round =>
      clear H'
      try clear a2
      try clear P
      try clear a3
      try clear a4
      obtain ⟨A, d, rfl, HA, d4, j, a, HB, HX⟩ := hrel
      cases gk with
      | zero => exact absurd HA.out (by simp [whole_Read.l0])
      | succ k2 =>
       have H := HA.out
       clear HA
       simp only [whole_Read.l0] at H
       by_cases T : d < (l1.length : Int)
       ·rw [if_pos T] at H
        have c7 : decide (d < (l1.length : Int)) = true := decide_eq_true T
        clear T
        by_cases b7 : 0 ≤ d
        ·rw [if_pos b7] at H
         have f8 : decide (0 ≤ d) = true := decide_eq_true b7
         clear b7
         by_cases b8 : d < (l1.length : Int)
         ·rw [if_pos b8] at H
          have f9 : decide (d < (l1.length : Int)) = true := decide_eq_true b8
          clear b8
          obtain ⟨O, D⟩ : ∃ y_ : List Int, y_ = (([10] : List Int)) := ⟨_, rfl⟩
          replace H : ((whole_times.f k2 A O).bind fun U => ((whole_words_trim.f k2 (([((rd l1 d) - 48) % 256] : List Int))).bind fun G => ((whole_plus.f k2 U G).bind fun Y => (whole_Read.l0 k2 r Y l1 (l1.length : Int) (wrap64 (d + 1)))))) = some (r1, r2, r3) := by first | (rw [D]; with_reducible exact H) | (have H2_ := (Option.bind_some _ _).symm.trans H; rw [D]; with_reducible exact H2_) | (have H2_ := (Option.bind_some _ _).symm.trans H; with_reducible exact H2_) | with_reducible exact H | (rw [D]; exact H) | exact H
          have a5 := Aside0.mk D
          clear D
          obtain ⟨U, g0, H⟩ := bs H
          obtain ⟨F, I⟩ : ∃ y_ : List Int, y_ = (([((rd l1 d) - 48) % 256] : List Int)) := ⟨_, rfl⟩
          replace H : ((whole_words_trim.f k2 F).bind fun G => ((whole_plus.f k2 U G).bind fun Y => (whole_Read.l0 k2 r Y l1 (l1.length : Int) (wrap64 (d + 1))))) = some (r1, r2, r3) := by first | (rw [I]; with_reducible exact H) | (have H2_ := (Option.bind_some _ _).symm.trans H; rw [I]; with_reducible exact H2_) | (have H2_ := (Option.bind_some _ _).symm.trans H; with_reducible exact H2_) | with_reducible exact H | (rw [I]; exact H) | exact H
          have a6 := Aside0.mk I
          clear I
          obtain ⟨G, g1, H⟩ := bs H
          obtain ⟨Y, g2, H⟩ := bs H
          have H' := Aside0.mk H
          clear H
          have a7 : 0 ≤ (d : Int) := of_decide_eq_true asm
          have a8 : d < (l1.length : Int) := of_decide_eq_true asm
          obtain ⟨g3, d5, a9⟩ := Kd.at_int HX.out d a7 a8
          cases d5
          rw [Addr.add_lit, Nat.zero_add] at a9
          replace a7 := eq_true a7
          replace a8 := eq_true a8
          go_wp2_with (first | ((with_reducible refine gd 46 rfl ?_); (try (refine gate_guard (by rfl) ?_; dsimp only)); refine Kd.R_lit (Kd.int .u32) _ 105 ?hg (N := 46) ?hd (xs := ([10] : List Int)) (inner := [.int .u32 10]) (ok := fun _ => True) (okp := fun _ => True) ?hr ?hp (fun _ hk => hk) trivial (Below.refl _ _) (Nat.le_refl _) (by simp) ?_; (case hd => rfl); (case hg => rfl); (case hr => first | (go_simp; done) | (go_simp; rfl)); (case hp => exact (Reps.one (show Kd.M (Kd.int .u32) _ _ _ 10 [.int .u32 10] from rfl) (Reps.none _ _))); intro g5 h3 ho26 l hg_ hnew_; clear hg_ hnew_; (first | rw [← a5.out] at ho26 | (simp only [Int.reduceToNat] at ho26; rw [← a5.out] at ho26)); have s := vE j ho26 l; have u := rL HB ho26; have v := kB a l; have x := hB HB l; clear j; have nX_ := Aside0.mk (Kd.C_below (by (with_reducible repeat (first | refine Kd.C_drewN ?_ _ | refine Kd.C_drew ?_ | refine Kd.C_alloc ?_ _)); exact HX.out) l); clear HX; have HX := nX_; clear nX_; clear a; clear HB; have j := s; have i := u; have a := v; have HB := x; clear s u v x; clear l ho26; obtain ⟨d6, d7, d8⟩ := vl j; cases d8; obtain ⟨Q, S, d9⟩ := sl i; cases d9) | ((with_reducible refine ga 55 rfl ?_); refine gc (some 47) Try.func55 #[.slice d6 A.length d7, .slice Q O.length S] (whole_times.calls k2 _ _ A _ _ O U _ (cv j) ((Kd.V_reads' j.out).2.1) (cr i) (rl i) g0.out) ?_; rintro e h4 ⟨g6, rfl, B, l⟩; refine ⟨_, rfl, ?_⟩; have s := vB j l; have u := rB i l; have v := Aside0.mk (Kd.V_lower (Kd.V_mono (ok' := fun k_ => some k_ ≠ (.slice Q O.length S : Value).ownBlock ∧ k_ ≠ m) B (fun k_ hk_ => ⟨(Kd.fresh' (Kd.R_lt (rb i)) k_ hk_), (Kd.freshB (g := m) (o := .cells #[.bool false, .slice none 0 0] 92 (0, 0)) bk k_ hk_)⟩)) (sz HB)); have x := kB a l; have J := hB HB l; clear j; clear i; have nX_ := Aside0.mk (Kd.C_below (by (with_reducible repeat (first | refine Kd.C_drewN ?_ _ | refine Kd.C_drew ?_ | refine Kd.C_alloc ?_ _)); exact HX.out) l); clear HX; have HX := nX_; clear nX_; clear a; clear HB; have j := s; have i := u; have n := v; have a := x; have HB := J; clear s u v x J; clear l B) | ((with_reducible refine gd 51 rfl ?_); (try (refine gate_guard (by rfl) ?_; dsimp only)); refine Kd.R_lit (Kd.int .u32) _ 105 ?hg (N := 51) ?hd (xs := ([((rd l1 d) - 48) % 256] : List Int)) (inner := [.int .u32 (((rd l1 d) - 48) % 256)]) (ok := fun _ => True) (okp := fun _ => True) ?hr ?hp (fun _ hk => hk) trivial (Below.refl _ _) (Nat.le_refl _) (by simp) ?_; (case hd => rfl); (case hg => rfl); (case hr => first | (go_simp; done) | (go_simp; rfl)); (case hp => exact (Reps.one (show Kd.M (Kd.int .u32) _ _ _ (((rd l1 d) - 48) % 256) [.int .u32 (((rd l1 d) - 48) % 256)] from rfl) (Reps.none _ _))); intro g7 h5 ho31 l hg_ hnew_; clear hg_ hnew_; (first | rw [← a6.out] at ho31 | (simp only [Int.reduceToNat] at ho31; rw [← a6.out] at ho31)); have s := vE j ho31 l; have u := rE i ho31 l; have v := vE n ho31 l; have x := rL HB (rn ho31 i); have J := kB a l; have K := hB HB l; clear j; clear i; clear n; have nX_ := Aside0.mk (Kd.C_below (by (with_reducible repeat (first | refine Kd.C_drewN ?_ _ | refine Kd.C_drew ?_ | refine Kd.C_alloc ?_ _)); exact HX.out) l); clear HX; have HX := nX_; clear nX_; clear a; clear HB; have j := s; have i := u; have n := v; have q := x; have a := J; have HB := K; clear s u v x J K; clear l ho31; obtain ⟨b0, b1, e0⟩ := sl q; cases e0) | ((with_reducible refine ga 56 rfl ?_); refine gc (some 52) Try.func56 #[.slice b0 F.length b1] (whole_words_trim.calls k2 (fun k_ => some k_ = (.slice b0 F.length b1 : Value).ownBlock) _ _ F G _ (Kd.R_V (Kd.R_tight rfl (Kd.R_types (q.out) a.out (by decide)))) g1.out) ?_; rintro e h6 ⟨g8, rfl, B, l⟩; refine ⟨_, rfl, ?_⟩; have s := vB j l; have u := rB i l; have v := vB n l; have x := rB q l; have J := Aside0.mk (Kd.V_lower (Kd.V_mono (ok' := fun k_ => some k_ ≠ (.slice Q O.length S : Value).ownBlock ∧ k_ ≠ m) B (fun k_ hk_ => ⟨Or.elim hk_ (fun hs_ => ((Kd.R_types (q.out) a.out (by decide)).1 k_ hs_.symm).1.2) (fun hn_ => (Kd.fresh' (Kd.R_lt (rb i)) k_ hn_)), Or.elim hk_ (fun hs_ => ((Kd.R_types (q.out) a.out (by decide)).1 k_ hs_.symm).2) (fun hn_ => (Kd.freshB (g := m) (o := .cells #[.bool false, .slice none 0 0] 92 (0, 0)) bk k_ hn_))⟩)) (sz HB)); have K := kB a l; have b2 := hB HB l; clear j; clear i; clear n; clear q; have nX_ := Aside0.mk (Kd.C_below (by (with_reducible repeat (first | refine Kd.C_drewN ?_ _ | refine Kd.C_drew ?_ | refine Kd.C_alloc ?_ _)); exact HX.out) l); clear HX; have HX := nX_; clear nX_; clear a; clear HB; have j := s; have i := u; have n := v; have q := x; have z := J; have a := K; have HB := b2; clear s u v x J K b2; clear l B; obtain ⟨e1, e2, e3⟩ := vl n; cases e3; obtain ⟨e4, e5, e6⟩ := vl z; cases e6) | ((with_reducible refine ga 54 rfl ?_); refine gc (some 53) Try.func54 #[.slice e1 U.length e2, .slice e4 G.length e5] (whole_plus.calls k2 _ _ U _ _ G Y _ (cv n) ((Kd.V_reads' n.out).2.1) (cv z) ((Kd.V_reads' z.out).2.1) g2.out) ?_; rintro e h7 ⟨g9, rfl, B, l⟩; refine ⟨_, rfl, ?_⟩; have s := vB j l; have u := rB i l; have v := vB n l; have x := rB q l; have J := vB z l; have K := Aside0.mk (Kd.V_lower (Kd.V_mono (ok' := fun k_ => some k_ ≠ (.slice Q O.length S : Value).ownBlock ∧ some k_ ≠ (.slice b0 F.length b1 : Value).ownBlock ∧ k_ ≠ m) B (fun k_ hk_ => ⟨(Kd.fresh' (Kd.R_lt (rb i)) k_ hk_), (Kd.fresh' (Kd.R_lt (rb q)) k_ hk_), (Kd.freshB (g := m) (o := .cells #[.bool false, .slice none 0 0] 92 (0, 0)) bk k_ hk_)⟩)) (sz HB)); have b2 := kB a l; have e7 := hB HB l; clear j; clear i; clear n; clear q; clear z; have nX_ := Aside0.mk (Kd.C_below (by (with_reducible repeat (first | refine Kd.C_drewN ?_ _ | refine Kd.C_drew ?_ | refine Kd.C_alloc ?_ _)); exact HX.out) l); clear HX; have HX := nX_; clear nX_; clear a; clear HB; have j := s; have i := u; have n := v; have q := x; have z := J; have c9 := K; have a := b2; have HB := e7; clear s u v x J K b2 e7; clear l B))
          go_roundg k2
          case measure => have := d2.out; have := d4.out; omega
          case rel => exact ⟨(Y), (wrap64 (d + 1)), sd, H', ⟨by have := d2.out; have := d4.out; omega⟩, ⟨by (with_reducible repeat (first | apply Kd.V_alloc | apply Kd.V_drewN | apply Kd.V_drew)); exact Kd.V_mono c9.out (fun _ hk => hk.2.2)⟩, ⟨bk⟩, ⟨bw⟩, ⟨by (with_reducible repeat (first | refine Kd.C_drewN ?_ _ | refine Kd.C_drew ?_ | refine Kd.C_alloc ?_ _)); exact HX.out⟩⟩
         ·rw [if_neg b8] at H
          exact absurd H (by simp)
        ·rw [if_neg b7] at H
         exact absurd H (by simp)
       ·rw [if_neg T] at H
        have c7 : decide (d < (l1.length : Int)) = false := decide_eq_false T
        clear T
        obtain ⟨⟨b3, b4, e8⟩, g4, H⟩ := bs H
        simp only [Option.some.injEq, Prod.mk.injEq] at H
        obtain ⟨rfl, rfl, rfl⟩ := H
        obtain ⟨e9, f0, f1⟩ := vl j; cases f1
        go_wp2_with (first | ((with_reducible refine ga 57 rfl ?_); refine gc (some 57) Try.func57 #[.bool r, .slice e9 A.length f0] (whole_fits.calls k2 r _ _ A b3 b4 e8 _ (cv j) ((Kd.V_reads' j.out).2.1) g4.out) ?_; rintro e h8 ⟨h0, rfl, B, l⟩; refine ⟨_, rfl, ?_⟩; have s := vE j B l; have u := rL HB B; have v := kB a l; have x := hB HB l; clear j; have nX_ := Aside0.mk (Kd.C_below (by (with_reducible repeat (first | refine Kd.C_drewN ?_ _ | refine Kd.C_drew ?_ | refine Kd.C_alloc ?_ _)); exact HX.out) l); clear HX; have HX := nX_; clear nX_; clear a; clear HB; have j := s; have b5 := u; have a := v; have HB := x; clear s u v x; clear l B; have hcz40 := zf2 a; obtain ⟨b9, c0, f2⟩ := sl b5; cases f2))
        refine bodyPost_ret (results_ct rfl _ _ m 92 #[.bool b3, .slice b9 b4.length c0] (0, 0) _ rfl (bp a) Try.underlying92 rfl (by kernel_rfl)) rfl ?_
        exact ⟨_, er, by (with_reducible repeat (first | apply Kd.R_alloc | apply Kd.R_drewN | apply Kd.R_drew)); exact Kd.R_mono (Kd.R_far (p := ⟨m, 1, none⟩) (Kd.R_far (p := ⟨m, 0, none⟩) (Kd.R_types b5.out a.out (by decide)) (fun _ hk => hk.2) (.bool b3)) (fun _ hk => hk.2) (.slice b9 b4.length c0)) (fun _ hk => trivial), bw⟩
end Go.Proofs.Ytpodpmjlkbbkoaa.P
namespace Go.Proofs.Ytpodpmjlkbbkoaa.P
open Go.RowKit Go.Proofs.YtpodpmjlkbbkoaaW.PrintWords Go.Proofs.YtpodpmjlkbbkoaaW.PrintLast Go.Proofs.YtpodpmjlkbbkoaaW.PrintMore
def bval (l : List Int) : Nat := l.foldl (fun a x => a * 256 + x.toNat) 0
def wval : List Int → Nat
 | [] => 0
 | x :: r => x.toNat + 4294967296 * wval r
def IsB (l : List Int) : Prop := ∀ x ∈ l, 0 ≤ x ∧ x < 256
def IsW (l : List Int) : Prop := ∀ x ∈ l, 0 ≤ x ∧ x < 4294967296
def leB (n : Nat) : List Int := if h : n = 0 then [] else ((n % 256 : Nat) : Int) :: leB (n / 256)
termination_by n
decreasing_by omega
def bytesN (n : Nat) : List Int := (leB n).reverse
def wordsN (n : Nat) : List Int := if h : n = 0 then [] else ((n % 4294967296 : Nat) : Int) :: wordsN (n / 4294967296)
termination_by n
decreasing_by omega
theorem leB_zero : leB 0 = [] := by unfold leB; simp
theorem leB_pos {n : Nat} (h : n ≠ 0) : leB n = ((n % 256 : Nat) : Int) :: leB (n / 256) := by rw [leB]; simp [h]
theorem wordsN_zero : wordsN 0 = [] := by unfold wordsN; simp
theorem wordsN_pos {n : Nat} (h : n ≠ 0) : wordsN n = ((n % 4294967296 : Nat) : Int) :: wordsN (n / 4294967296) := by rw [wordsN]; simp [h]
theorem bytesN_zero : bytesN 0 = [] := by simp [bytesN, leB_zero]
theorem bytesN_pos {n : Nat} (h : n ≠ 0) : bytesN n = bytesN (n / 256) ++ [((n % 256 : Nat) : Int)] := by simp [bytesN, leB_pos h]
theorem bval_nil : bval [] = 0 := rfl
theorem bval_snoc (l : List Int) (x : Int) : bval (l ++ [x]) = bval l * 256 + x.toNat := by simp [bval]
theorem foldl_bval (l : List Int) : ∀ a : Nat, l.foldl (fun a x => a * 256 + x.toNat) a = a * 256 ^ l.length + bval l := by
 induction l with
 | nil => intro a; simp [bval]
 | cons x r ih =>
  intro a
  have h1 := ih (a * 256 + x.toNat)
  have h2 := ih x.toNat
  simp only [List.foldl_cons, List.length_cons, bval] at *
  rw [h1]
  simp only [Nat.zero_mul, Nat.zero_add]
  rw [h2, Nat.pow_succ]
  rw [Nat.add_mul, Nat.mul_assoc, Nat.mul_comm 256]
  omega
theorem bval_cons (x : Int) (r : List Int) : bval (x :: r) = x.toNat * 256 ^ r.length + bval r := by
 have := foldl_bval r (0 * 256 + x.toNat)
 simpa [bval] using this
theorem bval_append (l r : List Int) : bval (l ++ r) = bval l * 256 ^ r.length + bval r := by
 unfold bval; rw [List.foldl_append]; exact foldl_bval r _
theorem IsB.nil : IsB [] := fun _ h => by cases h
theorem IsB.append {l r : List Int} (h : IsB l) (k : IsB r) : IsB (l ++ r) := fun y hy => by
 rcases List.mem_append.1 hy with hy | hy
 ·exact h y hy
 ·exact k y hy
theorem IsB.tail {x : Int} {r : List Int} (h : IsB (x :: r)) : IsB r := fun y hy => h y (List.mem_cons_of_mem _ hy)
theorem IsB.head {x : Int} {r : List Int} (h : IsB (x :: r)) : 0 ≤ x ∧ x < 256 := h x List.mem_cons_self
theorem IsB.left {l r : List Int} (h : IsB (l ++ r)) : IsB l := fun y hy => h y (List.mem_append.2 (.inl hy))
theorem IsB.right {l r : List Int} (h : IsB (l ++ r)) : IsB r := fun y hy => h y (List.mem_append.2 (.inr hy))
theorem IsW.nil : IsW [] := fun _ h => by cases h
theorem IsW.cons {x : Int} {r : List Int} (h0 : 0 ≤ x) (h1 : x < 4294967296) (h : IsW r) : IsW (x :: r) := fun y hy => by
 rcases List.mem_cons.1 hy with rfl | hy
 ·exact ⟨h0, h1⟩
 ·exact h y hy
theorem IsW.tail {x : Int} {r : List Int} (h : IsW (x :: r)) : IsW r := fun y hy => h y (List.mem_cons_of_mem _ hy)
theorem IsW.head {x : Int} {r : List Int} (h : IsW (x :: r)) : 0 ≤ x ∧ x < 4294967296 := h x List.mem_cons_self
theorem IsW.left {l r : List Int} (h : IsW (l ++ r)) : IsW l := fun y hy => h y (List.mem_append.2 (.inl hy))
theorem isW_wordsN (n : Nat) : IsW (wordsN n) := by
 induction n using Nat.strongRecOn with
 | _ n ih =>
  by_cases h : n = 0
  ·subst h; rw [wordsN_zero]; exact IsW.nil
  ·rw [wordsN_pos h]; exact IsW.cons (by omega) (by omega) (ih _ (by omega))
theorem bval_bytesN (n : Nat) : bval (bytesN n) = n := by
 induction n using Nat.strongRecOn with
 | _ n ih =>
  by_cases h : n = 0
  ·subst h; rw [bytesN_zero]; rfl
  ·rw [bytesN_pos h, bval_snoc, ih _ (by omega)]; omega
theorem wval_wordsN (n : Nat) : wval (wordsN n) = n := by
 induction n using Nat.strongRecOn with
 | _ n ih =>
  by_cases h : n = 0
  ·subst h; rw [wordsN_zero]; rfl
  ·rw [wordsN_pos h, wval, ih _ (by omega)]; omega
theorem bval_ge {x : Int} {r : List Int} (h : IsB (x :: r)) (hx : x ≠ 0) : 256 ^ r.length ≤ bval (x :: r) := by
 rw [bval_cons]
 have h2 := h.head
 have : 1 * 256 ^ r.length ≤ x.toNat * 256 ^ r.length := Nat.mul_le_mul_right _ (by omega)
 omega
def CanB (l : List Int) : Prop := IsB l ∧ l.head? ≠ some 0
theorem bytesN_bval {l : List Int} (h : CanB l) : bytesN (bval l) = l := by
 obtain ⟨hb, hh⟩ := h
 suffices H : ∀ m : List Int, IsB m.reverse → m.reverse.head? ≠ some 0 → bytesN (bval m.reverse) = m.reverse by
  have := H l.reverse (by simpa using hb) (by simpa using hh)
  simpa using this
 intro m
 induction m with
 | nil => intro _ _; simp [bval, bytesN_zero]
 | cons x r ih =>
  intro hb hh
  rw [List.reverse_cons] at hb hh ⊢
  have hx := (hb.right).head
  rw [bval_snoc]
  cases hr : r.reverse with
  | nil =>
   rw [hr] at hh
   have hx0 : x ≠ 0 := by simpa using hh
   rw [bval_nil, bytesN_pos (by omega)]
   have e1 : (0 * 256 + x.toNat) / 256 = 0 := by omega
   have e2 : (((0 * 256 + x.toNat) % 256 : Nat) : Int) = x := by omega
   rw [e1, e2, bytesN_zero]
  | cons y s =>
   have ih' := ih hb.left (by rw [hr] at hh ⊢; simpa using hh)
   rw [hr] at ih' hb hh
   have hy : y ≠ 0 := by simpa using hh
   have hge := bval_ge hb.left hy
   have hpos : 0 < 256 ^ s.length := Nat.pow_pos (by omega)
   rw [bytesN_pos (by omega)]
   have e1 : (bval (y :: s) * 256 + x.toNat) / 256 = bval (y :: s) := by omega
   have e2 : (((bval (y :: s) * 256 + x.toNat) % 256 : Nat) : Int) = x := by omega
   rw [e1, e2, ih']
theorem bytesN_nil_iff (n : Nat) : bytesN n = [] ↔ n = 0 := by
 constructor
 ·intro h; have := bval_bytesN n; rw [h] at this; simpa [bval] using this.symm
 ·rintro rfl; exact bytesN_zero
theorem bytesN_len_zero (n : Nat) : (bytesN n).length = 0 ↔ n = 0 := by rw [List.length_eq_zero_iff]; exact bytesN_nil_iff n
theorem wval_append (l r : List Int) : wval (l ++ r) = wval l + 4294967296 ^ l.length * wval r := by
 induction l with
 | nil => simp [wval]
 | cons x s ih =>
  simp only [List.cons_append, wval, ih, List.length_cons, Nat.pow_succ]
  rw [Nat.mul_add, Nat.mul_comm (4294967296 ^ s.length) 4294967296, Nat.mul_assoc]
  omega
theorem wval_snoc (l : List Int) (x : Int) : wval (l ++ [x]) = wval l + 4294967296 ^ l.length * x.toNat := by
 rw [wval_append]; simp [wval]
theorem wval_lt {l : List Int} (h : IsW l) : wval l < 4294967296 ^ l.length := by
 induction l with
 | nil => simp [wval]
 | cons x r ih =>
  have h1 := ih h.tail
  have h2 := h.head
  simp only [wval, List.length_cons, Nat.pow_succ]
  omega
def CanW (l : List Int) : Prop := IsW l ∧ l.getLast? ≠ some 0
theorem wval_pos {l : List Int} (h : CanW l) (hl : l ≠ []) : 4294967296 ^ (l.length - 1) ≤ wval l := by
 obtain ⟨hw, hh⟩ := h
 rcases List.eq_nil_or_concat l with rfl | ⟨s, x, rfl⟩
 ·exact absurd rfl hl
 ·have hx := hw x (by simp)
  have hx0 : x ≠ 0 := by simpa using hh
  simp only [List.concat_eq_append] at *
  rw [wval_snoc]
  simp only [List.length_append, List.length_singleton, Nat.add_sub_cancel]
  have : 4294967296 ^ s.length * 1 ≤ 4294967296 ^ s.length * x.toNat := Nat.mul_le_mul_left _ (by omega)
  omega
theorem wordsN_wval {l : List Int} (h : CanW l) : wordsN (wval l) = l := by
 induction l with
 | nil => simp [wval, wordsN_zero]
 | cons x r ih =>
  obtain ⟨hw, hh⟩ := h
  have hx := hw.head
  have hr : CanW r := ⟨hw.tail, by
   cases r with
   | nil => simp
   | cons y s => simpa [List.getLast?_cons_cons] using hh⟩
  have hne : wval (x :: r) ≠ 0 := by
   have := wval_pos ⟨hw, hh⟩ (by simp)
   have hpos : 0 < 4294967296 ^ ((x :: r).length - 1) := Nat.pow_pos (by omega)
   omega
  rw [wordsN_pos hne]
  simp only [wval]
  have e1 : (x.toNat + 4294967296 * wval r) / 4294967296 = wval r := by omega
  have e2 : (((x.toNat + 4294967296 * wval r) % 4294967296 : Nat) : Int) = x := by omega
  rw [e1, e2, ih hr]
theorem canW_wordsN (n : Nat) : CanW (wordsN n) := by
 refine ⟨isW_wordsN n, ?_⟩
 induction n using Nat.strongRecOn with
 | _ n ih =>
  by_cases h : n = 0
  ·subst h; rw [wordsN_zero]; simp
  ·rw [wordsN_pos h]
   by_cases h2 : n / 4294967296 = 0
   ·rw [h2, wordsN_zero]; simp; omega
   ·have := ih _ (show n / 4294967296 < n by omega)
    rw [wordsN_pos h2] at this ⊢
    simpa [List.getLast?_cons_cons] using this
theorem wordsN_length_le {n k : Nat} : (wordsN n).length ≤ k ↔ n < 4294967296 ^ k := by
 constructor
 ·intro h
  have := wval_lt (isW_wordsN n)
  rw [wval_wordsN] at this
  exact Nat.lt_of_lt_of_le this (Nat.pow_le_pow_right (by omega) h)
 ·intro h
  apply Nat.le_of_not_lt
  intro hlt
  have hne : wordsN n ≠ [] := by intro h0; rw [h0] at hlt; simp at hlt
  have hge := wval_pos (canW_wordsN n) hne
  rw [wval_wordsN] at hge
  have : 4294967296 ^ k ≤ 4294967296 ^ ((wordsN n).length - 1) := Nat.pow_le_pow_right (by omega) (by omega)
  omega
theorem wval_replicate_zero (m : Nat) : wval (List.replicate m 0) = 0 := by
 induction m with
 | zero => rfl
 | succ m ih => simp [List.replicate_succ, wval, ih]
theorem IsW.get {l : List Int} (h : IsW l) (i : Nat) (hi : i < l.length) : 0 ≤ l[i] ∧ l[i] < 4294967296 := h _ (List.getElem_mem hi)
theorem take_succ_get (l : List Int) (i : Nat) (h : i < l.length) : l.take (i + 1) = l.take i ++ [l[i]] := List.take_succ_eq_append_getElem h
theorem take_ge (l : List Int) (i : Nat) (h : l.length ≤ i) : l.take (i + 1) = l.take i := by
 rw [List.take_of_length_le h, List.take_of_length_le (by omega)]
@[irreducible] def W32 (i : Nat) : Int := ((4294967296 ^ i : Nat) : Int)
theorem W32_succ (i : Nat) : W32 (i + 1) = W32 i * 4294967296 := by unfold W32; rw [Nat.pow_succ, Int.natCast_mul]; rfl
@[irreducible] def wI (l : List Int) : Int := (wval l : Int)
theorem wI_eq (l : List Int) : wI l = (wval l : Int) := by unfold wI; rfl
theorem wI_nil : wI [] = 0 := by rw [wI_eq]; rfl
theorem wI_cons (x : Int) (l : List Int) (h : 0 ≤ x) : wI (x :: l) = x + 4294967296 * wI l := by
 rw [wI_eq, wI_eq, wval, Int.natCast_add, Int.natCast_mul, Int.toNat_of_nonneg h]; rfl
theorem wI_snoc (l : List Int) (x : Int) (h : 0 ≤ x) : wI (l ++ [x]) = wI l + W32 l.length * x := by
 rw [wI_eq, wI_eq, wval_snoc, Int.natCast_add, Int.natCast_mul, Int.toNat_of_nonneg h]; unfold W32; rfl
theorem wI_append (l r : List Int) : wI (l ++ r) = wI l + W32 l.length * wI r := by
 rw [wI_eq, wI_eq, wI_eq, wval_append, Int.natCast_add, Int.natCast_mul]; unfold W32; rfl
theorem wI_replicate_zero (m : Nat) : wI (List.replicate m 0) = 0 := by rw [wI_eq, wval_replicate_zero]; rfl
theorem wI_take_succ (l : List Int) (i : Nat) (h : i < l.length) (h0 : 0 ≤ l[i]) : wI (l.take (i + 1)) = wI (l.take i) + W32 i * l[i] := by
 rw [take_succ_get l i h, wI_snoc _ _ h0, List.length_take, Nat.min_eq_left (Nat.le_of_lt h)]
theorem wI_set (l : List Int) (p : Nat) (v : Int) (h : p < l.length) (h0 : 0 ≤ v) (hl : 0 ≤ l[p]) : wI (l.set p v) = wI l + W32 p * (v - l[p]) := by
 have e1 : l = l.take p ++ (l[p] :: l.drop (p + 1)) := by simp
 have e2 : l.set p v = l.take p ++ (v :: l.drop (p + 1)) := by rw [List.set_eq_take_append_cons_drop, if_pos h]
 have hlen : (l.take p).length = p := by simp; omega
 have a1 : wI l = wI (l.take p) + W32 p * (l[p] + 4294967296 * wI (l.drop (p + 1))) := by
  have := wI_append (l.take p) (l[p] :: l.drop (p + 1))
  rw [← e1, hlen, wI_cons _ _ hl] at this
  exact this
 have a2 : wI (l.set p v) = wI (l.take p) + W32 p * (v + 4294967296 * wI (l.drop (p + 1))) := by
  rw [e2, wI_append, hlen, wI_cons _ _ h0]
 rw [a1, a2]
 grind
theorem IsW.set {l : List Int} (h : IsW l) (p : Nat) (v : Int) (h0 : 0 ≤ v) (h1 : v < 4294967296) : IsW (l.set p v) := fun y hy => by
 rcases List.mem_or_eq_of_mem_set hy with hy | rfl
 ·exact h y hy
 ·exact ⟨h0, h1⟩
theorem W32_add (i j : Nat) : W32 (i + j) = W32 i * W32 j := by unfold W32; rw [Nat.pow_add, Int.natCast_mul]
theorem mul_bound {a b : Int} (h0 : 0 ≤ a) (h1 : a < 4294967296) (k0 : 0 ≤ b) (k1 : b < 4294967296) : 0 ≤ a * b ∧ a * b ≤ 18446744065119617025 := by
 refine ⟨Int.mul_nonneg h0 k0, ?_⟩
 have := Int.mul_le_mul (show a ≤ 4294967295 by omega) (show b ≤ 4294967295 by omega) k0 (by omega)
 omega
theorem IsW.replicate (n : Nat) : IsW (List.replicate n 0) := fun y hy => by
 rw [List.eq_of_mem_replicate hy]; omega
theorem w64 {x : Int} (h1 : -9223372036854775808 ≤ x) (h2 : x ≤ 9223372036854775807) : wrap64 x = x := by unfold wrap64; omega
theorem w64s (i : Nat) (h : i < 9223372036854775807) : wrap64 ((i : Int) + 1) = ((i + 1 : Nat) : Int) := by rw [w64 (by omega) (by omega)]; omega
theorem u64 {x : Int} (h1 : 0 ≤ x) (h2 : x < 18446744073709551616) : IntKind.u64.wrap x = x := by
 have : IntKind.u64.wrap x = x % 18446744073709551616 := by simp [IntKind.wrap, IntKind.bits, IntKind.signed]
 rw [this]; omega
theorem rd_snoc (s : List Int) (x : Int) (i : Int) (h : i = s.length) : rd (s ++ [x]) i = x := by
 unfold rd; subst h; simp
theorem rd_lt (l : List Int) (i : Nat) (h : i < l.length) : rd l (i : Int) = l[i] := by
 unfold rd; simp [h]
theorem trim_ev (l : List Int) (hw : IsW l) (hl : l.length ≤ 9223372036854775807) : Ev (fun k => whole_words_trim.f k l) (wordsN (wval l)) := by
 suffices H : ∀ n l, l.length = n → IsW l → l.length ≤ 9223372036854775807 → Ev (fun k => whole_words_trim.l0 k l) (wordsN (wval l)) by
  exact H _ l rfl hw hl
 intro n
 induction n with
 | zero =>
  intro l h0 hw hl
  obtain rfl := List.eq_nil_of_length_eq_zero h0
  simp only [wval, wordsN_zero]
  exact Ev.step (f := fun _ => some []) (fun k => by simp only [whole_words_trim.l0]; rw [if_neg (by simp)]) (Ev.now _)
 | succ n ih =>
  intro l h0 hw hl
  rcases List.eq_nil_or_concat l with rfl | ⟨s, x, rfl⟩
  ·simp at h0
  ·rw [List.concat_eq_append] at *
   have hlen : (s ++ [x]).length = s.length + 1 := by simp
   rw [hlen] at h0 hl
   have e1 : wrap64 (((s ++ [x]).length : Int) - 1) = s.length := by rw [hlen, w64 (by omega) (by omega)]; omega
   by_cases hx : x = 0
   ·subst hx
    have hv : wval (s ++ [0]) = wval s := by rw [wval_snoc]; simp
    rw [hv]
    refine Ev.step (f := fun k => whole_words_trim.l0 k s) (fun k => ?_) (ih s (by omega) hw.left (by omega))
    simp only [whole_words_trim.l0]
    rw [e1, hlen, if_pos (by omega), if_pos (by omega), if_pos (by omega), rd_snoc _ _ _ rfl, if_pos rfl, if_pos (by omega)]
    simp
   ·have hc : CanW (s ++ [x]) := ⟨hw, by simpa using hx⟩
    rw [wordsN_wval hc]
    refine Ev.step (f := fun _ => some (s ++ [x])) (fun k => ?_) (Ev.now _)
    simp only [whole_words_trim.l0]
    rw [e1, hlen, if_pos (by omega), if_pos (by omega), if_pos (by omega), rd_snoc _ _ _ rfl, if_neg hx]
theorem plus_step {P S A B c ai bi v q : Int} (h : v + 4294967296 * q = c + ai + bi) (he : S + P * c = A + B) : (S + P * v) + (P * 4294967296) * q = (A + P * ai) + (B + P * bi) := by grind
theorem plus_step1 {P S A B c ai v q : Int} (h : v + 4294967296 * q = c + ai) (he : S + P * c = A + B) : (S + P * v) + (P * 4294967296) * q = (A + P * ai) + B := by grind
theorem plus_loop (a b : List Int) (ha : IsW a) (hb : IsW b) (hla : a.length ≤ 1000000) (hlb : b.length ≤ a.length) :
  ∀ (d i : Nat) (out : List Int) (c : Int), d = a.length - i → i ≤ a.length → out.length = a.length + 1 → IsW out → 0 ≤ c → c < 4294967296 → (∀ p (hp : p < out.length), i ≤ p → out[p] = 0) →
   wI out + W32 i * c = wI (a.take i) + wI (b.take i) → Ev (fun k => whole_plus1.l0 k a b out c a.length i) (wordsN (wval a + wval b)) := by
 intro d
 induction d with
 | zero =>
  intro i out c hd hi ho hw c0 c1 hz he
  obtain rfl : i = a.length := by omega
  have hpos : a.length < out.length := by omega
  have hz0 := hz a.length hpos (Nat.le_refl _)
  have hs := wI_set out a.length c hpos c0 (by omega)
  rw [hz0, List.take_length, List.take_of_length_le hlb] at *
  have hv : wval (out.set a.length c) = wval a + wval b := by
   have : wI (out.set a.length c) = wI a + wI b := by rw [hs]; rw [← he]; simp
   rw [wI_eq, wI_eq, wI_eq] at this
   omega
  refine Ev.step (f := fun k => (whole_words_trim.f k (out.set a.length c)).bind fun t => some t) (fun k => ?_) ?_
  ·simp only [whole_plus1.l0]
   rw [if_neg (by omega), if_pos (by omega), if_pos (by omega), Int.toNat_natCast, Int.emod_eq_of_lt c0 (by omega)]
  ·rw [← hv]
   exact Ev.bind (trim_ev _ (hw.set _ _ c0 c1) (by simp; omega)) (Ev.now _)
 | succ d ih =>
  intro i out c hd hi ho hw c0 c1 hz he
  have hlt : i < a.length := by omega
  have hpos : i < out.length := by omega
  have hA := ha.get i hlt
  have hz0 := hz i hpos (Nat.le_refl _)
  have hta := wI_take_succ a i hlt hA.1
  by_cases hbl : i < b.length
  ·have hB := hb.get i hbl
   have htb := wI_take_succ b i hbl hB.1
   refine Ev.step (fun k => ?_) (ih (i + 1) (out.set i ((c + a[i] + b[i]) % 4294967296)) ((c + a[i] + b[i]) / 4294967296) (by omega) (by omega) (by simpa using ho) (hw.set _ _ (by omega) (by omega)) (by omega) (by omega)
    (fun p hp hge => by rw [List.getElem_set_ne (by omega)]; exact hz p (by simpa using hp) (by omega)) ?_)
   ·simp only [whole_plus1.l0]
    rw [if_pos (by omega), if_pos (by omega), if_pos (by omega), if_pos (by omega), if_pos (by omega), rd_lt _ _ hlt, rd_lt _ _ hbl, u64 (x := a[i]) (by omega) (by omega), u64 (x := b[i]) (by omega) (by omega),
     u64 (x := c + a[i]) (by omega) (by omega), u64 (x := c + a[i] + b[i]) (by omega) (by omega), w64s i (by omega)]
    simp
   ·rw [wI_set out i _ hpos (by omega) (by omega), hz0, hta, htb, W32_succ, Int.sub_zero]
    exact plus_step (by omega) he
  ·have htb := take_ge b i (by omega)
   refine Ev.step (fun k => ?_) (ih (i + 1) (out.set i ((c + a[i]) % 4294967296)) ((c + a[i]) / 4294967296) (by omega) (by omega) (by simpa using ho) (hw.set _ _ (by omega) (by omega)) (by omega) (by omega)
    (fun p hp hge => by rw [List.getElem_set_ne (by omega)]; exact hz p (by simpa using hp) (by omega)) ?_)
   ·simp only [whole_plus1.l0]
    rw [if_pos (by omega), if_pos (by omega), if_pos (by omega), if_neg (by omega), if_pos (by omega), rd_lt _ _ hlt, u64 (x := a[i]) (by omega) (by omega), u64 (x := c + a[i]) (by omega) (by omega), w64s i (by omega)]
    simp
   ·rw [wI_set out i _ hpos (by omega) (by omega), hz0, hta, htb, W32_succ, Int.sub_zero]
    exact plus_step1 (by omega) he
theorem plus1_ev (a b : List Int) (ha : IsW a) (hb : IsW b) (hla : a.length ≤ 1000000) (hlb : b.length ≤ a.length) : Ev (fun k => whole_plus1.f k a b) (wordsN (wval a + wval b)) := by
 refine Ev.congr (fun k => ?_) (plus_loop a b ha hb hla hlb a.length 0 (List.replicate (a.length + 1) 0) 0 (by omega) (by omega) (by simp) (IsW.replicate _) (by omega) (by omega) (fun p hp _ => by simp) (by simp [wI_nil, wI_replicate_zero]))
 unfold whole_plus1.f
 rw [w64 (x := (a.length : Int) + 1) (by omega) (by omega), if_pos (by omega), if_pos (by omega), show ((a.length : Int) + 1).toNat = a.length + 1 by omega]
 rfl
theorem plus_ev (a b : List Int) (ha : IsW a) (hb : IsW b) (hla : a.length ≤ 1000000) (hlb : b.length ≤ 1000000) : Ev (fun k => whole_plus.f k a b) (wordsN (wval a + wval b)) := by
 by_cases h : a.length < b.length
 ·refine Ev.congr (fun k => ?_) (Nat.add_comm (wval b) (wval a) ▸ plus1_ev b a hb ha hlb (by omega))
  unfold whole_plus.f; rw [if_pos h]
 ·refine Ev.congr (fun k => ?_) (plus1_ev a b ha hb hla (by omega))
  unfold whole_plus.f; rw [if_neg h]
theorem strip_bytes : ∀ (l : List Int), IsB l → strip l = bytesN (bval l)
 | [], _ => by rw [bval_nil, bytesN_zero]; rfl
 | x :: r, h => by
  by_cases hx : x = 0
  ·subst hx
   have e : strip (0 :: r) = strip r := by simp [strip]
   rw [e, strip_bytes r h.tail, bval_cons]
   simp
  ·have e : strip (x :: r) = x :: r := by simp [strip, hx]
   rw [e, bytesN_bval ⟨h, by simp [hx]⟩]
theorem four_isB (n : Int) : IsB (four n) := by
 intro y hy
 simp only [four, List.mem_cons, List.not_mem_nil, or_false] at hy
 rcases hy with rfl | rfl | rfl | rfl <;> omega
theorem four_bval (n : Int) (h0 : 0 ≤ n) (h1 : n < 4294967296) : bval (four n) = n.toNat := by
 simp only [four, bval, List.foldl_cons, List.foldl_nil]
 omega
theorem flat_cons (z : Int) (zs : List Int) : flat (upto (fromLast (z :: zs)) (zs.length + 1)) = flat (upto (fromLast zs) zs.length) ++ four z := by
 unfold flat upto
 rw [List.range_succ, List.map_append, List.flatMap_append]
 congr 1
 ·rw [List.flatMap_map, List.flatMap_map]
  rw [List.flatMap_def, List.flatMap_def]
  congr 1
  apply List.map_congr_left
  intro j hj
  have hj := List.mem_range.1 hj
  simp only [fromLast, List.length_cons]
  congr 1
  have e1 : ((zs.length + 1 : Nat) : Int) - 1 - (j : Int) = ((zs.length - j : Nat) : Int) := by omega
  have e2 : ((zs.length : Nat) : Int) - 1 - (j : Int) = ((zs.length - 1 - j : Nat) : Int) := by omega
  rw [e1, e2, rd_lt _ _ (by simp; omega), rd_lt _ _ (by omega)]
  have e3 : zs.length - j = (zs.length - 1 - j) + 1 := by omega
  simp only [e3, List.getElem_cons_succ]
 ·have e1 : (((z :: zs).length : Nat) : Int) - 1 - (zs.length : Int) = ((0 : Nat) : Int) := by simp
  simp only [List.map_cons, List.map_nil, fromLast, List.flatMap_cons, List.flatMap_nil, List.append_nil]
  rw [e1, rd_lt _ _ (by simp)]
  rfl
theorem flat_spec : ∀ (zs : List Int), IsW zs → IsB (flat (upto (fromLast zs) zs.length)) ∧ bval (flat (upto (fromLast zs) zs.length)) = wval zs
 | [], _ => ⟨by simpa [flat, upto] using IsB.nil, by simp [flat, upto, bval_nil, wval]⟩
 | z :: zs, h => by
  obtain ⟨h1, h2⟩ := flat_spec zs h.tail
  rw [List.length_cons, flat_cons]
  refine ⟨h1.append (four_isB z), ?_⟩
  rw [bval_append, h2, four_bval z h.head.1 h.head.2]
  show wval zs * 256 ^ 4 + z.toNat = z.toNat + 4294967296 * wval zs
  rw [show (256 : Nat) ^ 4 = 4294967296 by decide]; omega
theorem bytes_ev (l : List Int) (h : IsW l) (hl : l.length ≤ 100000) : Ev (fun k => whole_words_bytes.f k l) (bytesN (wval l)) := by
 unfold whole_words_bytes.f
 refine Ev.bind (trim_ev l h (by omega)) ?_
 have hc := canW_wordsN (wval l)
 have hlen : (wordsN (wval l)).length ≤ 100000 := Nat.le_trans (wordsN_length_le.2 (wval_lt h)) hl
 refine Ev.congr (f := fun _ => some (bytesN (wval l))) (fun k => ?_) (Ev.now _)
 obtain ⟨h1, h2⟩ := flat_spec (wordsN (wval l)) hc.1
 rw [if_pos hlen, strip_bytes _ h1, h2, wval_wordsN]
def mk (neg : Bool) (n : Nat) : Bool × List Int := (neg && decide (n ≠ 0), bytesN n)
theorem made_ev (neg : Bool) (l : List Int) (h : IsW l) (hl : l.length ≤ 100000) : Ev (fun k => whole_made.f k neg l) (mk neg (wval l)) := by
 unfold whole_made.f
 refine Ev.bind (bytes_ev l h hl) ?_
 refine Ev.congr (f := fun _ => some (mk neg (wval l))) (fun k => ?_) (Ev.now _)
 have hz : decide (0 < (bytesN (wval l)).length) = decide (wval l ≠ 0) := by
  have := bytesN_len_zero (wval l)
  simp only [decide_eq_decide]; omega
 cases neg <;> simp [mk, hz]
def fit (neg : Bool) (n : Nat) : Bool × List Int × Int := if (bytesN n).length > 128 then (false, [], 24) else ((mk neg n).1, (mk neg n).2, 0)
theorem fits_ev (neg : Bool) (l : List Int) (h : IsW l) (hl : l.length ≤ 100000) : Ev (fun k => whole_fits.f k neg l) (fit neg (wval l)) := by
 unfold whole_fits.f
 refine Ev.bind (made_ev neg l h hl) ?_
 refine Ev.congr (f := fun _ => some (fit neg (wval l))) (fun k => ?_) (Ev.now _)
 show (if ((bytesN (wval l)).length : Int) > 128 then some (false, ([] : List Int), (24 : Int)) else some ((mk neg (wval l)).1, (mk neg (wval l)).2, (0 : Int))) = some (fit neg (wval l))
 unfold fit
 by_cases hb : (bytesN (wval l)).length > 128
 ·rw [if_pos (by omega), if_pos hb]
 ·rw [if_neg (by omega), if_neg hb]
theorem wordsN_len (n k : Nat) (h : n < 256 ^ (4 * k)) : (wordsN n).length ≤ k := by
 rw [wordsN_length_le]
 have : (256 : Nat) ^ (4 * k) = 4294967296 ^ k := by rw [Nat.pow_mul]
 omega
theorem words_mono {n m : Nat} (h : n ≤ m) : (wordsN n).length ≤ (wordsN m).length := by
 rw [wordsN_length_le]
 exact Nat.lt_of_le_of_lt h (wordsN_length_le.1 (Nat.le_refl _))
theorem times_step {S0 wo P Q c ai bj o v q T : Int} (h : v + 4294967296 * q = c + (ai * bj + o)) (he : wo + P * Q * c = S0 + ai * P * T) :
  (wo + P * Q * (v - o)) + P * (Q * 4294967296) * q = S0 + ai * P * (T + Q * bj) := by grind
theorem times_inner (a b : List Int) (hb : IsW b) (ai : Int) (h0 : 0 ≤ ai) (h1 : ai < 4294967296) (i n m : Nat) (S0 : Int) (hm : b.length = m) (hi : i < n) (hn : n ≤ 100000) (hm2 : m ≤ 100000) (r : List Int)
  (hr : ∀ (out : List Int) (c : Int), out.length = n + m → IsW out → 0 ≤ c → c < 4294967296 → (∀ p (hp : p < out.length), i + m ≤ p → out[p] = 0) → wI out + W32 i * W32 m * c = S0 + ai * W32 i * wI b →
   Ev (fun k => whole_times.l0 k b (out.set (i + m) c) a n ((i + 1 : Nat) : Int)) r) :
  ∀ (d j : Nat) (out : List Int) (c : Int), d = m - j → j ≤ m → out.length = n + m → IsW out → 0 ≤ c → c < 4294967296 → (∀ p (hp : p < out.length), i + m ≤ p → out[p] = 0) →
   wI out + W32 i * W32 j * c = S0 + ai * W32 i * wI (b.take j) →
   Ev (fun k => whole_times.l1 k b out i ai c a n i b m j) r := by
 intro d
 induction d with
 | zero =>
  intro j out c hd hj ho hw c0 c1 hz he
  obtain rfl : j = m := by omega
  rw [List.take_of_length_le (by omega)] at he
  refine Ev.step (fun k => ?_) (hr out c ho hw c0 c1 hz he)
  simp only [whole_times.l1]
  rw [if_neg (by omega), hm, w64 (x := (i : Int) + j) (by omega) (by omega), if_pos (by omega), if_pos (by omega), w64s i (by omega), Int.emod_eq_of_lt c0 (by omega)]
  rw [show ((i : Int) + (j : Int)).toNat = i + j by omega]
 | succ d ih =>
  intro j out c hd hj ho hw c0 c1 hz he
  have hlt : j < b.length := by omega
  have hpos : i + j < out.length := by omega
  have hB := hb.get j hlt
  have hO := hw.get (i + j) hpos
  have hM := mul_bound h0 h1 hB.1 hB.2
  have hT : 0 ≤ c + (ai * b[j] + out[i + j]) ∧ c + (ai * b[j] + out[i + j]) < 18446744073709551616 := by omega
  have e1 : IntKind.u64.wrap (c + IntKind.u64.wrap (IntKind.u64.wrap (IntKind.u64.wrap ai * IntKind.u64.wrap b[j]) + IntKind.u64.wrap out[i + j])) = c + (ai * b[j] + out[i + j]) := by
   rw [u64 (x := ai) (by omega) (by omega), u64 (x := b[j]) (by omega) (by omega), u64 (x := out[i + j]) (by omega) (by omega), u64 (x := ai * b[j]) (by omega) (by omega),
    u64 (x := ai * b[j] + out[i + j]) (by omega) (by omega), u64 hT.1 hT.2]
  refine Ev.step (fun k => ?_) (ih (j + 1) (out.set (i + j) ((c + (ai * b[j] + out[i + j])) % 4294967296)) ((c + (ai * b[j] + out[i + j])) / 4294967296) (by omega) (by omega) (by simpa using ho) (hw.set _ _ (by omega) (by omega)) (by omega) (by omega)
   (fun p hp hge => by
    rw [List.getElem_set_ne (by omega)]
    exact hz p (by simpa using hp) hge) ?_)
  ·simp only [whole_times.l1]
   rw [if_pos (by omega), if_pos (by omega), if_pos (by omega), w64 (x := (i : Int) + j) (by omega) (by omega), if_pos (by omega), if_pos (by omega), w64s j (by omega)]
   rw [show ((i : Int) + (j : Int)) = ((i + j : Nat) : Int) by omega, rd_lt _ _ hlt, rd_lt _ _ hpos, e1]
   rfl
  ·rw [wI_set _ _ _ hpos (by omega) hO.1, wI_take_succ _ _ hlt hB.1, W32_add, W32_succ]
   exact times_step (by omega) he
theorem times_outer (a b : List Int) (ha : IsW a) (hb : IsW b) (hla : a.length ≤ 100000) (hlb : b.length ≤ 100000) :
  ∀ (d i : Nat) (out : List Int), d = a.length - i → i ≤ a.length → out.length = a.length + b.length → IsW out → (∀ p (hp : p < out.length), i + b.length ≤ p → out[p] = 0) →
   wI out = wI (a.take i) * wI b → Ev (fun k => whole_times.l0 k b out a a.length i) (wordsN (wval a * wval b)) := by
 intro d
 induction d with
 | zero =>
  intro i out hd hi ho hw hz he
  obtain rfl : i = a.length := by omega
  rw [List.take_length] at he
  have hv : wval out = wval a * wval b := by
   rw [wI_eq, wI_eq, wI_eq] at he
   exact_mod_cast he
  refine Ev.step (f := fun k => (whole_words_trim.f k out).bind fun t => some t) (fun k => ?_) ?_
  ·simp only [whole_times.l0]; rw [if_neg (by omega)]
  ·rw [← hv]; exact Ev.bind (trim_ev out hw (by omega)) (Ev.now _)
 | succ d ih =>
  intro i out hd hi ho hw hz he
  have hlt : i < a.length := by omega
  have hA := ha.get i hlt
  refine Ev.step (f := fun k => whole_times.l1 k b out i a[i] 0 a a.length i b b.length 0) (fun k => ?_) ?_
  ·simp only [whole_times.l0]
   rw [if_pos (by omega), if_pos (by omega), if_pos (by omega), rd_lt _ _ hlt]
  ·refine times_inner a b hb a[i] hA.1 hA.2 i a.length b.length (wI out) rfl hlt hla hlb _ ?_ b.length 0 out 0 (by omega) (by omega) ho hw (by omega) (by omega) hz (by simp [wI_nil])
   intro out2 c h2 hw2 c0 c1 hz2 he2
   refine ih (i + 1) (out2.set (i + b.length) c) (by omega) (by omega) (by simpa using h2) (hw2.set _ _ c0 c1) (fun p hp hge => ?_) ?_
   ·rw [List.getElem_set_ne (by omega)]
    exact hz2 p (by simpa using hp) (by omega)
   ·have hpos : i + b.length < out2.length := by omega
    have hz3 := hz2 (i + b.length) hpos (Nat.le_refl _)
    rw [wI_set _ _ _ hpos c0 (by omega), hz3, W32_add, wI_take_succ _ _ hlt hA.1]
    have e0 : W32 i * W32 b.length * (c - 0) = W32 i * W32 b.length * c := by simp
    rw [e0, he2, he]
    grind
theorem times_ev (a b : List Int) (ha : IsW a) (hb : IsW b) (hla : a.length ≤ 100000) (hlb : b.length ≤ 100000) :
  Ev (fun k => whole_times.f k a b) (wordsN (wval a * wval b)) := by
 refine Ev.congr (fun k => ?_) (times_outer a b ha hb hla hlb a.length 0 (List.replicate (a.length + b.length) 0) (by omega) (by omega) (by simp) (IsW.replicate _) (fun p hp _ => by simp) (by simp [wI_nil, wI_replicate_zero]))
 unfold whole_times.f
 rw [w64 (x := (a.length : Int) + b.length) (by omega) (by omega), if_pos (by omega), if_pos (by omega)]
 rw [show ((a.length : Int) + (b.length : Int)).toNat = a.length + b.length by omega]
 rfl
def dval : List Int → Nat
 | [] => 0
 | x :: r => (x - 48).toNat + 10 * dval r
def IsD (l : List Int) : Prop := ∀ x ∈ l, 48 ≤ x ∧ x ≤ 57
def hval (l : List Int) : Nat := dval l.reverse
theorem hval_snoc (l : List Int) (x : Int) : hval (l ++ [x]) = hval l * 10 + (x - 48).toNat := by
 unfold hval; rw [List.reverse_append, List.reverse_singleton, List.singleton_append, dval]; omega
theorem dval_lt : ∀ l : List Int, IsD l → dval l < 10 ^ l.length
 | [], _ => by simp [dval]
 | x :: r, hd => by
  have h1 := dval_lt r (fun z hz => hd z (List.mem_cons_of_mem _ hz))
  have h2 := hd x (by simp)
  rw [dval, List.length_cons, Nat.pow_succ']; omega
theorem bytesL_len (s : ByteArray) : (bytesL s).length = s.size := by simp [bytesL]
theorem bt_at (s : ByteArray) (i : Nat) (h : i < s.size) : bt s (i : Int) = (bytesL s)[i]'(by rw [bytesL_len]; exact h) := by
 unfold bt
 simp [h, bytesL]
 rfl
theorem bt_zero (s : ByteArray) (h : 0 < s.size) : bt s 0 = (bytesL s)[0]'(by rw [bytesL_len]; exact h) := bt_at s 0 h
def cutN (s : ByteArray) : Bool := decide ((bytesL s).head? = some 45)
def cutD (s : ByteArray) : ByteArray := if cutN s = true then s.extract 1 s.size else s
theorem cutD_bytes (s : ByteArray) : bytesL (cutD s) = if cutN s = true then (bytesL s).drop 1 else bytesL s := by
 unfold cutD
 split
 ·simp [bytesL, ByteArray.data_extract]
  rw [List.take_of_length_le (by simp)]
 ·rfl
theorem cut_eq (s : ByteArray) : strings_CutPrefix.f s ⟨#[45]⟩ = some (cutD s, cutN s) := by
 unfold strings_CutPrefix.f stringslite_CutPrefix.f stringslite_HasPrefix.f
 have h1 : (⟨#[45]⟩ : ByteArray).size = 1 := rfl
 rw [h1]
 by_cases h : (s.size : Int) ≥ ((1 : Nat) : Int)
 ·rw [if_pos h, if_pos (by omega), if_pos (by omega)]
  have hs : 0 < s.size := by omega
  have hl : (bytesL s).length = s.size := bytesL_len s
  have e : ((s.extract 0 ((1 : Nat) : Int).toNat).toList == (⟨#[45]⟩ : ByteArray).toList) = cutN s := by
   rw [ByteArray.toList_eq, ByteArray.toList_eq]
   unfold cutN bytesL
   obtain ⟨⟨l⟩⟩ := s
   cases l with
   | nil => exact absurd hs (Nat.lt_irrefl 0)
   | cons b r =>
    simp only [ByteArray.data_extract]
    by_cases hb : b = 45
    ·subst hb; simp
    ·have : ¬ ((b.toNat : Nat) : Int) = 45 := by
      intro e
      apply hb
      have : b.toNat = (45 : UInt8).toNat := by have : (45 : UInt8).toNat = 45 := rfl; omega
      exact UInt8.toNat.inj this
     simp [this, hb]
  rw [e, Option.bind_some]
  by_cases hc : cutN s = true
  ·rw [if_pos hc, if_pos (by omega), if_pos (by omega), Option.bind_some]
   unfold cutD; rw [if_pos hc, hc]; rfl
  ·have hc' : cutN s = false := by simpa using hc
   rw [if_neg hc, Option.bind_some]
   unfold cutD; rw [if_neg hc, hc']
 ·rw [if_neg h, Option.bind_some, if_neg (by simp), Option.bind_some]
  have hs : s.size = 0 := by omega
  have hn : bytesL s = [] := List.eq_nil_of_length_eq_zero (by rw [bytesL_len]; exact hs)
  have hc : cutN s = false := by unfold cutN; rw [hn]; rfl
  unfold cutD; rw [hc]; rfl
theorem decode_high (s : ByteArray) (pos : Nat) (h : ¬ (s.get! (pos + 0)).toNat < 128) : 128 ≤ (Utf8.decode s pos).1 := by
 unfold Utf8.decode
 simp only [h, if_false, Utf8.runeError]
 repeat' split
 all_goals first | omega | (simp_all; done) | (simp_all; omega)
theorem odd_at (s : ByteArray) (pos : Nat) (h : pos < s.size) (hd : 48 ≤ (bytesL s)[pos]'(by rw [bytesL_len]; exact h) ∧ (bytesL s)[pos]'(by rw [bytesL_len]; exact h) ≤ 57) : oddR (Utf8.decode s pos).1 = false ∧ (Utf8.decode s pos).2 = 1 := by
 have e : (bytesL s)[pos]'(by rw [bytesL_len]; exact h) = (((s[pos]'h).toNat : Nat) : Int) := by simp [bytesL]; rfl
 rw [e] at hd
 rw [decode_ascii s pos h (by omega)]
 refine ⟨?_, rfl⟩
 unfold oddR
 simp only [Bool.or_eq_false_iff, decide_eq_false_iff_not]
 omega
theorem odd_not (s : ByteArray) (pos : Nat) (h : pos < s.size) (hd : ¬ (48 ≤ (bytesL s)[pos]'(by rw [bytesL_len]; exact h) ∧ (bytesL s)[pos]'(by rw [bytesL_len]; exact h) ≤ 57)) : oddR (Utf8.decode s pos).1 = true := by
 have e : (bytesL s)[pos]'(by rw [bytesL_len]; exact h) = (((s[pos]'h).toNat : Nat) : Int) := by simp [bytesL]; rfl
 rw [e] at hd
 by_cases ha : (s[pos]'h).toNat < 128
 ·rw [decode_ascii s pos h ha]
  unfold oddR
  simp only [Bool.or_eq_true, decide_eq_true_eq]
  omega
 ·have := decode_high s pos (by
   have : s.get! (pos + 0) = s[pos]'h := by simp [ByteArray.get!, h]; rfl
   rw [this]; exact ha)
  unfold oddR
  simp only [Bool.or_eq_true, decide_eq_true_eq]
  omega
theorem idx_none (s : ByteArray) : ∀ (f pos : Nat), (∀ p, (h : p < s.size) → pos ≤ p → 48 ≤ (bytesL s)[p]'(by rw [bytesL_len]; exact h) ∧ (bytesL s)[p]'(by rw [bytesL_len]; exact h) ≤ 57) → idxF s f pos = -1
 | 0, _, _ => rfl
 | f + 1, pos, h => by
  unfold idxF
  by_cases hp : pos < s.size
  ·obtain ⟨e1, e2⟩ := odd_at s pos hp (h pos hp (Nat.le_refl _))
   rw [if_pos hp, e1, if_neg (by simp), e2]
   exact idx_none s f (pos + 1) (fun p hp' hle => h p hp' (by omega))
  ·rw [if_neg hp]
theorem idx_some (s : ByteArray) : ∀ (f pos p : Nat), s.size ≤ pos + f → pos ≤ p → (h : p < s.size) → ¬ (48 ≤ (bytesL s)[p]'(by rw [bytesL_len]; exact h) ∧ (bytesL s)[p]'(by rw [bytesL_len]; exact h) ≤ 57) → 0 ≤ idxF s f pos
 | 0, pos, p, hs, hle, hp, _ => by omega
 | f + 1, pos, p, hs, hle, hp, hn => by
  unfold idxF
  have hps : pos < s.size := by omega
  rw [if_pos hps]
  by_cases hd : 48 ≤ (bytesL s)[pos]'(by rw [bytesL_len]; exact hps) ∧ (bytesL s)[pos]'(by rw [bytesL_len]; exact hps) ≤ 57
  ·obtain ⟨e1, e2⟩ := odd_at s pos hps hd
   rw [e1, if_neg (by simp), e2]
   refine idx_some s f (pos + 1) p (by omega) ?_ hp hn
   rcases Nat.lt_or_ge pos p with h | h
   ·exact h
   ·have : pos = p := by omega
    subst this; exact absurd hd hn
  ·rw [odd_not s pos hps hd, if_pos rfl]; omega
def Good (s : ByteArray) : Prop := ∃ h : 0 < (bytesL (cutD s)).length, IsD (bytesL (cutD s)) ∧ ¬ ((bytesL (cutD s))[0] = 48 ∧ 1 < s.size)
theorem all_isD {l : List Int} : IsD l ↔ ∀ p, (h : p < l.length) → 48 ≤ l[p] ∧ l[p] ≤ 57 := by
 constructor
 ·intro h p hp; exact h _ (List.getElem_mem hp)
 ·intro h x hx
  obtain ⟨p, hp, rfl⟩ := List.getElem_of_mem hx
  exact h p hp
theorem not_isD {l : List Int} (h : ¬ IsD l) : ∃ p, ∃ hp : p < l.length, ¬ (48 ≤ l[p] ∧ l[p] ≤ 57) := by
 apply Classical.byContradiction
 intro hn
 apply h
 rw [all_isD]
 intro p hp
 apply Classical.byContradiction
 intro h2
 exact hn ⟨p, hp, h2⟩
theorem empty_iff (d : ByteArray) : d.toList = [] ↔ (bytesL d).length = 0 := by
 rw [ByteArray.toList_eq, bytesL_len]
 constructor
 ·intro h; have := congrArg List.length h; simpa using this
 ·intro h; exact List.eq_nil_of_length_eq_zero (by simpa using h)
theorem cut_size (s : ByteArray) : (cutD s).size + (if cutN s = true then 1 else 0) = s.size := by
 rw [← bytesL_len, ← bytesL_len s, cutD_bytes]
 by_cases h : cutN s = true
 ·rw [if_pos h, if_pos h, List.length_drop]
  have : bytesL s ≠ [] := by intro e; unfold cutN at h; rw [e] at h; simp at h
  have : (bytesL s).length ≠ 0 := fun e => this (List.eq_nil_of_length_eq_zero e)
  omega
 ·rw [if_neg h, if_neg h]; rfl
theorem read_test (s : ByteArray) : ∃ b : Bool, (b = true ↔ ¬ Good s) ∧ ∀ (k : Nat) (l1 : List Int), whole_Read.f k s l1 = whole_Read.j0 k s l1 (cutN s) b := by
 have hsz := bytesL_len (cutD s)
 by_cases h0 : (cutD s).toList = []
 ·have hz := (empty_iff _).1 h0
  refine ⟨true, ⟨fun _ hg => ?_, fun _ => rfl⟩, fun k l1 => ?_⟩
  ·obtain ⟨h, _⟩ := hg; omega
  ·unfold whole_Read.f; rw [cut_eq, Option.bind_some]; dsimp only; rw [if_pos h0]
 ·have hz : 0 < (cutD s).size := by
   rcases Nat.eq_zero_or_pos (cutD s).size with h | h
   ·exact absurd ((empty_iff _).2 (by rw [hsz]; exact h)) h0
   ·exact h
  by_cases hd : IsD (bytesL (cutD s))
  ·have hi : idxF (cutD s) (cutD s).size 0 = -1 := idx_none _ _ _ (fun p hp _ => all_isD.1 hd p (by rw [hsz]; exact hp))
   by_cases h1 : (bytesL (cutD s))[0]'(by rw [hsz]; exact hz) = 48
   ·refine ⟨decide ((s.size : Int) > 1), ?_, fun k l1 => ?_⟩
    ·rw [decide_eq_true_eq]
     constructor
     ·intro h hg
      obtain ⟨_, _, h2⟩ := hg
      exact h2 ⟨h1, by omega⟩
     ·intro hg
      apply Classical.byContradiction
      intro h
      exact hg ⟨by rw [hsz]; exact hz, hd, fun h2 => h (by have := h2.2; omega)⟩
    ·unfold whole_Read.f
     rw [cut_eq, Option.bind_some]
     dsimp only
     rw [if_neg h0]
     show ((strings_IndexFunc.f (cutD s)).bind _) = _
     unfold strings_IndexFunc.f
     rw [hi, Option.bind_some, if_neg (by omega), if_pos (by omega), if_pos (by rw [bt_zero _ hz]; exact h1)]
   ·refine ⟨false, ⟨fun h => Bool.noConfusion h, fun hg => absurd ⟨by rw [hsz]; exact hz, hd, fun h2 => h1 h2.1⟩ hg⟩, fun k l1 => ?_⟩
    unfold whole_Read.f
    rw [cut_eq, Option.bind_some]
    dsimp only
    rw [if_neg h0]
    show ((strings_IndexFunc.f (cutD s)).bind _) = _
    unfold strings_IndexFunc.f
    rw [hi, Option.bind_some, if_neg (by omega), if_pos (by omega), if_neg (by rw [bt_zero _ hz]; exact h1)]
  ·obtain ⟨p, hp, hn⟩ := not_isD hd
   have hi : 0 ≤ idxF (cutD s) (cutD s).size 0 := idx_some _ _ _ p (by omega) (by omega) (by rw [← hsz]; exact hp) hn
   refine ⟨true, ⟨fun _ hg => ?_, fun _ => rfl⟩, fun k l1 => ?_⟩
   ·obtain ⟨_, h2, _⟩ := hg; exact hd h2
   ·unfold whole_Read.f
    rw [cut_eq, Option.bind_some]
    dsimp only
    rw [if_neg h0]
    show ((strings_IndexFunc.f (cutD s)).bind _) = _
    unfold strings_IndexFunc.f
    rw [Option.bind_some, if_pos (by omega)]
theorem big400 : (10 : Nat) ^ 400 < 256 ^ (4 * 95) := by decide +kernel
theorem hval_words {D : List Int} (hD : IsD D) (hl : D.length ≤ 400) (i : Nat) : (wordsN (hval (D.take i))).length ≤ 95 := by
 refine wordsN_len _ 95 ?_
 have h1 : IsD (D.take i).reverse := fun x hx => hD x (List.mem_of_mem_take (List.mem_reverse.1 hx))
 have h2 := dval_lt _ h1
 rw [List.length_reverse] at h2
 have h3 : (D.take i).length ≤ 400 := by rw [List.length_take]; omega
 exact Nat.lt_of_lt_of_le h2 (Nat.le_trans (Nat.pow_le_pow_right (by decide) h3) (Nat.le_of_lt big400))
theorem hval_take {D : List Int} (i : Nat) (h : i < D.length) : hval (D.take (i + 1)) = hval (D.take i) * 10 + (D[i] - 48).toNat := by
 rw [take_succ_get D i h, hval_snoc]
theorem dig_isW (x : Int) : IsW [(x - 48) % 256] := IsW.cons (by omega) (by omega) IsW.nil
theorem dig_wval (x : Int) (h : 48 ≤ x ∧ x ≤ 57) : wval [(x - 48) % 256] = (x - 48).toNat := by
 have : (x - 48) % 256 = x - 48 := by omega
 rw [this]; simp [wval]
theorem read_loop (neg : Bool) (D : List Int) (hD : IsD D) (hl : D.length ≤ 400) : ∀ (d i : Nat), d + i = D.length → Ev (fun k => whole_Read.l0 k neg (wordsN (hval (D.take i))) D (D.length : Int) (i : Int)) (fit neg (hval D)) := by
 intro d
 induction d with
 | zero =>
  intro i hd
  obtain rfl : i = D.length := by omega
  have hw := hval_words hD hl D.length
  rw [List.take_length] at hw ⊢
  have hf := fits_ev neg (wordsN (hval D)) (isW_wordsN _) (by omega)
  rw [wval_wordsN] at hf
  refine Ev.step (f := fun k => (whole_fits.f k neg (wordsN (hval D))).bind fun bt400 => some (bt400.1, bt400.2.1, bt400.2.2)) (fun k => ?_) (Ev.bind hf (Ev.now _))
  simp only [whole_Read.l0]
  rw [if_neg (by omega)]
 | succ d ih =>
  intro i hd
  have hi : i < D.length := by omega
  have hA := hD _ (List.getElem_mem hi)
  have hw := hval_words hD hl i
  have hw2 := hval_words hD hl (i + 1)
  have h := ih (i + 1) (by omega)
  have e := hval_take i hi
  generalize hval (D.take i) = v at *
  have ten : IsW [10] := IsW.cons (by omega) (by omega) IsW.nil
  have ht := times_ev (wordsN v) [10] (isW_wordsN _) ten (by omega) (by simp)
  rw [wval_wordsN, show wval [10] = 10 from rfl] at ht
  have hlt : (wordsN (v * 10)).length ≤ 95 := Nat.le_trans (words_mono (by omega)) hw2
  have hr := trim_ev [(D[i] - 48) % 256] (dig_isW _) (by simp)
  rw [dig_wval _ hA] at hr
  have hlr : (wordsN (D[i] - 48).toNat).length ≤ 95 := Nat.le_trans (words_mono (by omega)) hw2
  have hp := plus_ev (wordsN (v * 10)) (wordsN (D[i] - 48).toNat) (isW_wordsN _) (isW_wordsN _) (by omega) (by omega)
  rw [wval_wordsN, wval_wordsN, ← e] at hp
  refine Ev.step (f := fun k => (whole_times.f k (wordsN v) [10]).bind fun t388 => (whole_words_trim.f k [(D[i] - 48) % 256]).bind fun t394 => (whole_plus.f k t388 t394).bind fun t397 => whole_Read.l0 k neg t397 D (D.length : Int) ((i + 1 : Nat) : Int)) (fun k => ?_) (Ev.bind ht (Ev.bind hr (Ev.bind hp h)))
  simp only [whole_Read.l0]
  rw [if_pos (by omega), if_pos (by omega), if_pos (by omega), rd_lt _ _ hi, w64s i (by omega)]
theorem reads_one (s : ByteArray) (hs : s.size ≤ 9000000000000000000) : ∃ (neg : Bool) (l : List Int) (er : Int), Ev (fun k => whole_Read.f k s (bytesL (cutD s))) (neg, l, er) := by
 obtain ⟨b, hb, hf⟩ := read_test s
 have hsz := bytesL_len (cutD s)
 have hcs := cut_size s
 by_cases hg : Good s
 ·have hb0 : b = false := by rw [Bool.eq_false_iff]; intro h; exact hb.1 h hg
  subst hb0
  by_cases h400 : s.size ≤ 400
  ·have hD := hg.2.1
   have hl : (bytesL (cutD s)).length ≤ 400 := by split at hcs <;> omega
   have hw := read_loop (cutN s) (bytesL (cutD s)) hD hl (bytesL (cutD s)).length 0 (by omega)
   rw [List.take_zero, show hval [] = 0 from rfl, wordsN_zero] at hw
   refine ⟨(fit (cutN s) (hval (bytesL (cutD s)))).1, (fit (cutN s) (hval (bytesL (cutD s)))).2.1, (fit (cutN s) (hval (bytesL (cutD s)))).2.2, ?_⟩
   ·refine Ev.congr (fun k => hf k _) (Ev.step (fun k => ?_) hw)
    simp only [whole_Read.j0]
    rw [if_neg (by simp), if_neg (by omega)]; rfl
  ·refine ⟨false, [], 24, ?_⟩
   ·refine Ev.congr (fun k => hf k _) (Ev.step (f := fun _ => some (false, [], 24)) (fun k => ?_) (Ev.now _))
    simp only [whole_Read.j0]
    rw [if_neg (by simp), if_pos (by omega)]
 ·have hb1 : b = true := hb.2 hg
  subst hb1
  refine ⟨false, [], 11, ?_⟩
  refine Ev.congr (fun k => hf k _) (Ev.step (f := fun _ => some (false, [], 11)) (fun k => ?_) (Ev.now _))
  simp only [whole_Read.j0]; rfl
noncomputable def okNum (t : ByteArray) : Bool := @decide (∃ k neg l, whole_Read.f k t (bytesL (cutD t)) = some (neg, l, 0)) (Classical.propDecidable _)
theorem okNum_of {t : ByteArray} {k : Nat} {neg : Bool} {l : List Int} {er : Int} (h : whole_Read.f k t (bytesL (cutD t)) = some (neg, l, er)) : (er == 0) = okNum t := by
 unfold okNum
 by_cases h0 : er = 0
 ·subst h0
  rw [@decide_eq_true _ (Classical.propDecidable _) ⟨k, neg, l, h⟩]
  rfl
 ·rw [@decide_eq_false _ (Classical.propDecidable _)]
  ·simpa using h0
  ·rintro ⟨k2, neg2, l2, h2⟩
   have e1 := at_rounds (fun k => whole_Read.mono t (bytesL (cutD t)) k) (Nat.le_add_right k k2) h
   have e2 := at_rounds (fun k => whole_Read.mono t (bytesL (cutD t)) k) (Nat.le_add_left k2 k) h2
   rw [e1] at e2
   injection e2 with e2
   injection e2 with _ e2
   injection e2 with _ e2
   exact h0 e2
theorem reads_number : ReadsNumber okNum := by
 intro t ht w
 obtain ⟨neg, l, er, k, hk⟩ := reads_one t (by omega)
 have h := hk k (Nat.le_refl _)
 have hl : (bytesL (cutD t)).length ≤ 140737488351232 := by
  have h1 := bytesL_len (cutD t)
  have h2 := cut_size t
  split at h2 <;> omega
 refine (whole_Read.calls k t (bytesL (cutD t)) neg l er w hl (fun u b hu => ?_) h).mono ?_
 ·rw [cut_eq] at hu
  injection hu with hu
  injection hu with hu _
  rw [hu]
 ·rintro e w' ⟨v, rfl, hv, hb⟩
  obtain ⟨A, n, c, rfl⟩ := Kd.R_slice hv
  exact ⟨_, _, _, _, _, rfl, okNum_of h, hb⟩
end Go.Proofs.Ytpodpmjlkbbkoaa.P
