import Derived.Test.YtpodpmjlkbbkoaaQCTA
import Derived.Shelf.Strings.Builder1
import Derived.Shelf.Strings.Builder2
import Derived.Shelf.Small.Strs
import Derived.Shelf.Small.Wraps
import Derived.Shelf.Strings.BuilderF
import Derived.Shelf.Strings.BuilderK
import Derived.Shelf.Utf8.RuneCount
import Derived.Shelf.Strings.Builder2Cap
import Derived.Shelf.Strings.Search1
import Derived.Shelf.Strings.Search2
import Derived.Shelf.Strings.Search3
import Derived.Shelf.Strings.Count
import Derived.Shelf.LaysM
import Derived.Shelf.Strings.Shaped
import Derived.Shelf.Strings.Prefix
import Derived.Shelf.Strings.Split
import Derived.Shelf.Strings.Replace
import Derived.Shelf.Strings.SplitShaped
import Derived.Shelf.Unicode.Decode
import Derived.Shelf.Strings.RuneCount
import Derived.Shelf.Unicode.DecodeSlow
import Derived.Shelf.Unicode.DecodeAny
import Derived.Test.YtpodpmjlkbbkoaaProg
import Derived.Laws.RangeString
import Derived.LoopTactic
import Derived.StillTailTactics
import Derived.Outline
set_option linter.all false
set_option maxHeartbeats 16000000
set_option maxRecDepth 100000
namespace Go.Proofs.Ytpodpmjlkbbkoaa.P
open Go.RowKit Go.Proofs.YtpodpmjlkbbkoaaW.PrintWords Go.Proofs.YtpodpmjlkbbkoaaW.PrintLast Go.Proofs.YtpodpmjlkbbkoaaW.PrintMore
attribute [local go_sem] max2_int min2_int max_two min_two max_three min_three max_four min_four   -- for this text's walks alone
def lex_letter.f (a0 : Int) : Option (Bool) := if (Go.bits .or .u8 a0 32) ≥ 97 then (some (decide ((Go.bits .or .u8 a0 32) ≤ 122))) else (some false)
theorem lex_letter.calls (a0 : Int) (r : Bool) (w : World) (h : lex_letter.f a0 = some r) :
  Calls Try.prog 39 #[.int .u8 a0] w fun e w' => e = .returned (.bool r) ∧ Drawn0 w w' := by
 have H : (if (Go.bits .or .u8 a0 32) ≥ 97 then (some (decide ((Go.bits .or .u8 a0 32) ≤ 122))) else (some false)) = some r := h
 clear h
 by_cases c2 : (Go.bits .or .u8 a0 32) ≥ 97
 ·rw [if_pos c2] at H
  have c2b0 : decide (97 ≤ (Go.bits .or .u8 a0 32)) = true := decide_eq_true c2
  clear c2
  obtain rfl := Option.some.inj H
  go_enter Try.func39, Try.ntmps39
  go_wp2
  go_ret
  exact ⟨by first | rfl | (simp; done) | (simp [*]; done), by repeat (first | exact Drawn0.refl _ | apply Drawn0.step)⟩
 ·rw [if_neg c2] at H
  have c2b0 : decide (97 ≤ (Go.bits .or .u8 a0 32)) = false := decide_eq_false c2
  clear c2
  obtain rfl := Option.some.inj H
  go_enter Try.func39, Try.ntmps39
  go_wp2
  go_ret
  exact ⟨by first | rfl | (simp; done) | (simp [*]; done), by repeat (first | exact Drawn0.refl _ | apply Drawn0.step)⟩
def IsS37 (w0 W : World) (g : Nat) (f0 : ByteArray) (f1 : Int) : Prop := W.heap[g]? = some (.cells #[.string f0, .int .i64 f1] 77 (0, 0)) ∧ w0.heap.size ≤ g
theorem IsS37.grown {w0 W : World} {g : Nat} {f0 : ByteArray} {f1 : Int} {W1 : World} {row : Option Nat} (h : IsS37 w0 W g f0 f1) (hw : W.grownBy W1 row) (hne : some g ≠ row) : IsS37 w0 W1 g f0 f1 := by
 obtain ⟨hb, hg⟩ := h
 exact ⟨blk_grown hb hw hne, hg⟩
theorem IsS37.below {w0 W : World} {g : Nat} {f0 : ByteArray} {f1 : Int} {W1 : World} (h : IsS37 w0 W g f0 f1) (hw : Below W.heap.size W W1) : IsS37 w0 W1 g f0 f1 := h.grown (grown_of_below hw none) (by simp)
theorem IsS37.drewN {w0 W : World} {g : Nat} {f0 : ByteArray} {f1 : Int} (h : IsS37 w0 W g f0 f1) (m : Nat) : IsS37 w0 (W.drewN m) g f0 f1 := h
theorem IsS37.lt {w0 W : World} {g : Nat} {f0 : ByteArray} {f1 : Int} (h : IsS37 w0 W g f0 f1) : g < W.heap.size := by
 obtain ⟨hb, hg⟩ := h
 exact blk_lt hb
theorem IsS37.ge {w0 W : World} {g : Nat} {f0 : ByteArray} {f1 : Int} (h : IsS37 w0 W g f0 f1) : w0.heap.size ≤ g := by
 obtain ⟨hb, hg⟩ := h
 exact hg
theorem IsS37.far {w0 W : World} {g : Nat} {f0 : ByteArray} {f1 : Int} {p : Addr} (h : IsS37 w0 W g f0 f1) (hne : g ≠ p.block) (u : Value) : IsS37 w0 (W.setCell p u) g f0 f1 := by
 obtain ⟨hb, hg⟩ := h
 exact ⟨blk_far hb hne u, hg⟩
theorem cellS37_0 {W : World} {g : Nat} {f0 : ByteArray} {f1 : Int} (h : W.heap[g]? = some (.cells #[.string f0, .int .i64 f1] 77 (0, 0))) : W.cell? ⟨g, 0, none⟩ = some (.string f0) := (blk_cell h 0).trans rfl
theorem cellS37_1 {W : World} {g : Nat} {f0 : ByteArray} {f1 : Int} (h : W.heap[g]? = some (.cells #[.string f0, .int .i64 f1] 77 (0, 0))) : W.cell? ⟨g, 1, none⟩ = some (.int .i64 f1) := (blk_cell h 1).trans rfl
theorem IsS37.set_1 {w0 W : World} {g : Nat} {f0 : ByteArray} {f1 : Int} (h : IsS37 w0 W g f0 f1) (x : Int) : IsS37 w0 (W.setCell ⟨g, 1, none⟩ (.int .i64 x)) g f0 x := by
 obtain ⟨hb, hg⟩ := h
 exact ⟨by simpa using blk_set hb 1 (.int .i64 x), hg⟩
def lex_reader_peek.f (s0_0 : ByteArray) (s0_1 : Int) (a1 : Int) : Option (Int × ByteArray × Int) := if (wrap64 (s0_1 + a1)) < (s0_0.size : Int) then (if 0 ≤ (wrap64 (s0_1 + a1)) then (some (bt s0_0 (wrap64 (s0_1 + a1)), s0_0, s0_1)) else (none)) else (some (0, s0_0, s0_1))
theorem lex_reader_peek.calls (g : Nat) (s0_0 : ByteArray) (s0_1 : Int) (a1 : Int) (r1 : Int) (r2 : ByteArray) (r3 : Int) (w0 w : World) (hI : IsS37 w0 w g s0_0 s0_1) (hB : Below w0.heap.size w0 w) (h : lex_reader_peek.f s0_0 s0_1 a1 = some (r1, r2, r3)) :
  Calls Try.prog 45 #[.pointer (some ⟨g, 0, none⟩), .int .i64 a1] w fun e w' => e = .returned (.int .u8 r1) ∧ IsS37 w0 w' g r2 r3 ∧ Below w0.heap.size w0 w' ∧ KeepBut w w' g none := by
 have a := Aside0.mk hI
 have HK := Aside0.mk (KeepBut.refl w g none)
 have HL := Aside0.mk hB.size
 clear hI
 have HW0 := Aside0.mk hB.size
 have HB := Aside0.mk hB
 clear hB
 have H : (if (wrap64 (s0_1 + a1)) < (s0_0.size : Int) then (if 0 ≤ (wrap64 (s0_1 + a1)) then (some (bt s0_0 (wrap64 (s0_1 + a1)), s0_0, s0_1)) else (none)) else (some (0, s0_0, s0_1))) = some (r1, r2, r3) := h
 clear h
 by_cases c : (wrap64 (s0_1 + a1)) < (s0_0.size : Int)
 ·rw [if_pos c] at H
  have b : decide ((wrap64 (s0_1 + a1)) < (s0_0.size : Int)) = true := decide_eq_true c
  clear c
  obtain ⟨ji4, hji4⟩ : ∃ j_ : Int, (wrap64 (s0_1 + a1)) = j_ := ⟨_, rfl⟩
  replace H : (if 0 ≤ (ji4) then (some (bt s0_0 (ji4), s0_0, s0_1)) else (none)) = some (r1, r2, r3) := by first | (rw [hji4] at H; exact H) | (simp only [hji4] at H ⊢; exact H)
  (try rw [hji4] at b)
  have hji4w : (IntKind.i64.wrap (s0_1 + a1)) = ji4 := (i64_w _).trans hji4
  by_cases d : 0 ≤ (ji4)
  ·rw [if_pos d] at H
   have i : decide (0 ≤ (ji4)) = true := decide_eq_true d
   clear d
   simp only [Option.some.injEq, Prod.mk.injEq] at H
   obtain ⟨rfl, rfl, rfl⟩ := H
   obtain ⟨HGz7, hgz7⟩ := a.out
   have hcz7_0 := cellS37_0 HGz7
   have hcz7_1 := cellS37_1 HGz7
   have hfz7_0 := blk_frozen HGz7 0
   have hfz7_1 := blk_frozen HGz7 1
   clear HGz7 hgz7
   have j : 0 ≤ ((ji4) : Int) := of_decide_eq_true (by first | (with_reducible assumption) | assumption)
   have k : (ji4) < (s0_0.size : Int) := of_decide_eq_true (by first | (with_reducible assumption) | assumption)
   have hx6 := bt_at s0_0 (ji4)
   replace j := eq_true j
   replace k := eq_true k
   go_enter Try.func45, Try.ntmps45
   go_wp2
   repeat (go_quiet (fail); try go_wp2)
   go_ret
   exact ⟨by first | rfl | (simp [errW_none, errW_some] <;> rfl) | (simp only [← hji4]; first | rfl | (simp [errW_none, errW_some] <;> rfl)) | (simp [*, errW_none, errW_some] <;> rfl), by repeat (first | (with_reducible first | exact a.out | apply IsS37.alloc | apply IsS37.drewN | apply IsS37.drew | apply IsS37.set_0 | apply IsS37.set_1) | exact a.out), by repeat (first | (with_reducible first | exact HB.out | apply below_alloc | apply pw_below_drewN | apply below_drew1 | refine below_set ?_ (IsS37.ge a.out)) | exact HB.out), by repeat (first | (with_reducible first | exact HK.out | apply KeepBut.set_ | apply keep_drewN | apply keep_drew | apply keep_alloc) | exact HK.out)⟩
  ·rw [if_neg d] at H
   exact absurd H (by simp)
 ·rw [if_neg c] at H
  have b : decide ((wrap64 (s0_1 + a1)) < (s0_0.size : Int)) = false := decide_eq_false c
  clear c
  simp only [Option.some.injEq, Prod.mk.injEq] at H
  obtain ⟨rfl, rfl, rfl⟩ := H
  obtain ⟨HGz8, hgz8⟩ := a.out
  have hcz8_0 := cellS37_0 HGz8
  have hcz8_1 := cellS37_1 HGz8
  have hfz8_0 := blk_frozen HGz8 0
  have hfz8_1 := blk_frozen HGz8 1
  clear HGz8 hgz8
  go_enter Try.func45, Try.ntmps45
  go_wp2
  repeat (go_quiet (fail); try go_wp2)
  go_ret
  exact ⟨by first | rfl | (simp [errW_none, errW_some] <;> rfl) | (simp [*, errW_none, errW_some] <;> rfl), by repeat (first | (with_reducible first | exact a.out | apply IsS37.alloc | apply IsS37.drewN | apply IsS37.drew | apply IsS37.set_0 | apply IsS37.set_1) | exact a.out), by repeat (first | (with_reducible first | exact HB.out | apply below_alloc | apply pw_below_drewN | apply below_drew1 | refine below_set ?_ (IsS37.ge a.out)) | exact HB.out), by repeat (first | (with_reducible first | exact HK.out | apply KeepBut.set_ | apply keep_drewN | apply keep_drew | apply keep_alloc) | exact HK.out)⟩
def lex_reader_colon.f (s0_0 : ByteArray) (s0_1 : Int) : Option (Bool × ByteArray × Int) := (lex_reader_peek.f s0_0 s0_1 0).bind fun bt101 => (if bt101.1 = 58 then ((lex_reader_peek.f bt101.2.1 bt101.2.2 1).bind fun bt104 => (some ((bt104.1 != 61), bt104.2.1, bt104.2.2))) else (some (false, bt101.2.1, bt101.2.2)))
theorem lex_reader_colon.calls (g : Nat) (s0_0 : ByteArray) (s0_1 : Int) (r1 : Bool) (r2 : ByteArray) (r3 : Int) (w0 w : World) (hI : IsS37 w0 w g s0_0 s0_1) (hB : Below w0.heap.size w0 w) (h : lex_reader_colon.f s0_0 s0_1 = some (r1, r2, r3)) :
  Calls Try.prog 41 #[.pointer (some ⟨g, 0, none⟩)] w fun e w' => e = .returned (.bool r1) ∧ IsS37 w0 w' g r2 r3 ∧ Below w0.heap.size w0 w' ∧ KeepBut w w' g none := by
 have a := Aside0.mk hI
 have HK := Aside0.mk (KeepBut.refl w g none)
 have HL := Aside0.mk hB.size
 clear hI
 have HW0 := Aside0.mk hB.size
 have HB := Aside0.mk hB
 clear hB
 have H : ((lex_reader_peek.f s0_0 s0_1 0).bind fun bt101 => (if bt101.1 = 58 then ((lex_reader_peek.f bt101.2.1 bt101.2.2 1).bind fun bt104 => (some ((bt104.1 != 61), bt104.2.1, bt104.2.2))) else (some (false, bt101.2.1, bt101.2.2)))) = some (r1, r2, r3) := h
 clear h
 replace H := Option.bind_eq_some_iff.mp H
 obtain ⟨⟨b, c, d⟩, q, H⟩ := H
 replace H : (if b = 58 then ((lex_reader_peek.f c d 1).bind fun bt104 => (some ((bt104.1 != 61), bt104.2.1, bt104.2.2))) else (some (false, c, d))) = some (r1, r2, r3) := H
 have u := Aside0.mk q
 clear q
 by_cases p : b = 58
 ·rw [if_pos p] at H
  have r : (b == 58) = true := beq_iff_eq.mpr p
  have s : (b != 58) = false := bne_eq_false_iff_eq.mpr p
  clear p
  replace H := Option.bind_eq_some_iff.mp H
  obtain ⟨⟨l, m, n⟩, t, H⟩ := H
  replace H : (some ((l != 61), m, n)) = some (r1, r2, r3) := H
  have v := Aside0.mk t
  clear t
  simp only [Option.some.injEq, Prod.mk.injEq] at H
  obtain ⟨rfl, rfl, rfl⟩ := H
  go_enter Try.func41, Try.ntmps41
  go_wp2_with (first | ((with_reducible refine gate_callee (f := 45) rfl ?_); refine goesL_ (some 4) rfl rfl Try.func45 (by kernel_rfl) rfl #[.pointer (some ⟨g, 0, none⟩), .int .i64 0] rfl (by (try simp only [List.map_toArray, List.map_cons, List.map_nil]); first | done | rfl | (simp only [List.length_drop, List.length_take]; rfl)) ?_; (with_reducible refine (lex_reader_peek.calls g s0_0 s0_1 0 b c d w0 _ ?side1 ?side2 u.out).mono ?_); (case side1 => repeat (first | (with_reducible first | exact a.out | apply IsS37.alloc | apply IsS37.drewN | apply IsS37.drew | apply IsS37.set_0 | apply IsS37.set_1) | exact a.out)); (case side2 => repeat (first | (with_reducible first | exact HB.out | apply below_alloc | apply pw_below_drewN | apply below_drew1 | refine below_set ?_ (IsS37.ge a.out)) | exact HB.out)); rintro e x ⟨rfl, hi, o, hk⟩; refine ⟨_, rfl, ?_⟩; have i := Aside0.mk (KeepBut.trans (by repeat (first | (with_reducible first | exact HK.out | apply KeepBut.set_ | apply keep_drewN | apply keep_drew | apply keep_alloc) | exact HK.out)) hk (.inl rfl)); have j := Aside0.mk (o); have k := Aside0.mk (hi); clear HK; clear HB; clear a; have HK := i; have HB := j; have a := k; clear i j k; (try clear o); (try clear hb2); (try clear hk); (try clear hi)) | (go_at_call 45; (with_reducible refine (lex_reader_peek.calls g c d 1 l m n w0 _ ?side1 ?side2 v.out).mono ?_); (case side1 => repeat (first | (with_reducible first | exact a.out | apply IsS37.alloc | apply IsS37.drewN | apply IsS37.drew | apply IsS37.set_0 | apply IsS37.set_1) | exact a.out)); (case side2 => repeat (first | (with_reducible first | exact HB.out | apply below_alloc | apply pw_below_drewN | apply below_drew1 | refine below_set ?_ (IsS37.ge a.out)) | exact HB.out)); rintro e y ⟨rfl, hi, o, hk⟩; have i := Aside0.mk (KeepBut.trans (by repeat (first | (with_reducible first | exact HK.out | apply KeepBut.set_ | apply keep_drewN | apply keep_drew | apply keep_alloc) | exact HK.out)) hk (.inl rfl)); have j := Aside0.mk (o); have k := Aside0.mk (hi); clear HK; clear HB; clear a; have HK := i; have HB := j; have a := k; clear i j k; (try clear o); (try clear hb2); (try clear hk); (try clear hi)))
  go_ret
  exact ⟨by first | rfl | (simp [errW_none, errW_some] <;> rfl) | (simp [*, errW_none, errW_some] <;> rfl), by repeat (first | (with_reducible first | exact a.out | apply IsS37.alloc | apply IsS37.drewN | apply IsS37.drew | apply IsS37.set_0 | apply IsS37.set_1) | exact a.out), by repeat (first | (with_reducible first | exact HB.out | apply below_alloc | apply pw_below_drewN | apply below_drew1 | refine below_set ?_ (IsS37.ge a.out)) | exact HB.out), by repeat (first | (with_reducible first | exact HK.out | apply KeepBut.set_ | apply keep_drewN | apply keep_drew | apply keep_alloc) | exact HK.out)⟩
 ·rw [if_neg p] at H
  have r : (b == 58) = false := beq_eq_false_iff_ne.mpr p
  have s : (b != 58) = true := bne_iff_ne.mpr p
  simp only [Option.some.injEq, Prod.mk.injEq] at H
  obtain ⟨rfl, rfl, rfl⟩ := H
  go_enter Try.func41, Try.ntmps41
  go_wp2_with (first | ((with_reducible refine gate_callee (f := 45) rfl ?_); refine goesL_ (some 4) rfl rfl Try.func45 (by kernel_rfl) rfl #[.pointer (some ⟨g, 0, none⟩), .int .i64 0] rfl (by (try simp only [List.map_toArray, List.map_cons, List.map_nil]); first | done | rfl | (simp only [List.length_drop, List.length_take]; rfl)) ?_; (with_reducible refine (lex_reader_peek.calls g s0_0 s0_1 0 b c d w0 _ ?side1 ?side2 u.out).mono ?_); (case side1 => repeat (first | (with_reducible first | exact a.out | apply IsS37.alloc | apply IsS37.drewN | apply IsS37.drew | apply IsS37.set_0 | apply IsS37.set_1) | exact a.out)); (case side2 => repeat (first | (with_reducible first | exact HB.out | apply below_alloc | apply pw_below_drewN | apply below_drew1 | refine below_set ?_ (IsS37.ge a.out)) | exact HB.out)); rintro e z ⟨rfl, hi, o, hk⟩; refine ⟨_, rfl, ?_⟩; have i := Aside0.mk (KeepBut.trans (by repeat (first | (with_reducible first | exact HK.out | apply KeepBut.set_ | apply keep_drewN | apply keep_drew | apply keep_alloc) | exact HK.out)) hk (.inl rfl)); have j := Aside0.mk (o); have k := Aside0.mk (hi); clear HK; clear HB; clear a; have HK := i; have HB := j; have a := k; clear i j k; (try clear o); (try clear hb2); (try clear hk); (try clear hi)))
  go_ret
  exact ⟨by first | rfl | (simp [errW_none, errW_some] <;> rfl) | (simp [*, errW_none, errW_some] <;> rfl), by repeat (first | (with_reducible first | exact a.out | apply IsS37.alloc | apply IsS37.drewN | apply IsS37.drew | apply IsS37.set_0 | apply IsS37.set_1) | exact a.out), by repeat (first | (with_reducible first | exact HB.out | apply below_alloc | apply pw_below_drewN | apply below_drew1 | refine below_set ?_ (IsS37.ge a.out)) | exact HB.out), by repeat (first | (with_reducible first | exact HK.out | apply KeepBut.set_ | apply keep_drewN | apply keep_drew | apply keep_alloc) | exact HK.out)⟩
def lex_digit.f (a0 : Int) : Option (Bool) := if a0 ≥ 48 then (some (decide (a0 ≤ 57))) else (some false)
theorem lex_digit.calls (a0 : Int) (r : Bool) (w : World) (h : lex_digit.f a0 = some r) :
  Calls Try.prog 42 #[.int .u8 a0] w fun e w' => e = .returned (.bool r) ∧ Drawn0 w w' := by
 have H : (if a0 ≥ 48 then (some (decide (a0 ≤ 57))) else (some false)) = some r := h
 clear h
 by_cases c2 : a0 ≥ 48
 ·rw [if_pos c2] at H
  have c2b0 : decide (48 ≤ a0) = true := decide_eq_true c2
  clear c2
  obtain rfl := Option.some.inj H
  go_enter Try.func42, Try.ntmps42
  go_wp2
  go_ret
  exact ⟨by first | rfl | (simp; done) | (simp [*]; done), by repeat (first | exact Drawn0.refl _ | apply Drawn0.step)⟩
 ·rw [if_neg c2] at H
  have c2b0 : decide (48 ≤ a0) = false := decide_eq_false c2
  clear c2
  obtain rfl := Option.some.inj H
  go_enter Try.func42, Try.ntmps42
  go_wp2
  go_ret
  exact ⟨by first | rfl | (simp; done) | (simp [*]; done), by repeat (first | exact Drawn0.refl _ | apply Drawn0.step)⟩
end Go.Proofs.Ytpodpmjlkbbkoaa.P
namespace Go.Proofs
open Go.Shelf
def Try.lays170_ren : Go.Shelf.Ren := ⟨fun | 170 => 59 | n => n, fun | 70 => 108 | 3 => 3 | 0 => 0 | 72 => 110 | 37 => 90 | 5 => 5 | n => n, fun | n => n⟩
theorem Try.lays170 : Go.Proofs.Lays.n170 Try.prog Try.lays170_ren := {
 mixed := by kernel_rfl
 f170 := Try.func59.trans (congrArg some (by kernel_rfl))
 t0 := Try.underlying0
 a0 := Try.isAgg0
 z0 := Try.sizeOf0
 v0 := Try.zeroValue0
 t3 := Try.underlying3
 a3 := Try.isAgg3
 z3 := Try.sizeOf3
 v3 := Try.zeroValue3
 t37 := Try.underlying90
 a37 := Try.isAgg90
 z37 := Try.sizeOf90
 v37 := Try.zeroValue90
 t70 := Try.underlying108
 a70 := Try.isAgg108
 z70 := Try.sizeOf108
 v70 := Try.zeroValue108
 t72 := Try.underlying110
 a72 := Try.isAgg110
 z72 := Try.sizeOf110
 v72 := Try.zeroValue110 }
def Try.lays169_ren : Go.Shelf.Ren := ⟨fun | 169 => 58 | n => n, fun | 70 => 108 | 9 => 9 | 0 => 0 | 72 => 110 | 37 => 90 | 127 => 120 | 3 => 3 | 5 => 5 | n => n, fun | n => n⟩
theorem Try.lays169 : Go.Proofs.Lays.n169 Try.prog Try.lays169_ren := {
 mixed := by kernel_rfl
 f169 := Try.func58.trans (congrArg some (by kernel_rfl))
 t0 := Try.underlying0
 a0 := Try.isAgg0
 z0 := Try.sizeOf0
 v0 := Try.zeroValue0
 t3 := Try.underlying3
 a3 := Try.isAgg3
 z3 := Try.sizeOf3
 v3 := Try.zeroValue3
 t9 := Try.underlying9
 a9 := Try.isAgg9
 z9 := Try.sizeOf9
 v9 := Try.zeroValue9
 t37 := Try.underlying90
 a37 := Try.isAgg90
 z37 := Try.sizeOf90
 v37 := Try.zeroValue90
 t70 := Try.underlying108
 a70 := Try.isAgg108
 z70 := Try.sizeOf108
 v70 := Try.zeroValue108
 t72 := Try.underlying110
 a72 := Try.isAgg110
 z72 := Try.sizeOf110
 v72 := Try.zeroValue110
 t127 := Try.underlying120
 a127 := Try.isAgg120
 z127 := Try.sizeOf120
 v127 := Try.zeroValue120 }
theorem Try.Builder_Extra_169 : Builder.Extra Try.prog Try.lays169_ren := {
 sizeBuilder := by kernel_rfl
 liesBuilder := by kernel_rfl
 t5 := Try.underlying5
 a5 := Try.isAgg5
 z5 := Try.sizeOf5
 v5 := Try.zeroValue5
 infoByte := by kernel_rfl
 cellsByte := by kernel_rfl
 sizeByte := by kernel_rfl
 neB5 := by decide }
def Try.lays137_ren : Go.Shelf.Ren := ⟨fun | 137 => 31 | 217 => 38 | 266 => 49 | n => n, fun | 9 => 9 | 5 => 5 | 3 => 3 | n => n, fun | n => n⟩
theorem Try.lays137 : Go.Proofs.Lays.n137 Try.prog Try.lays137_ren := {
 mixed := by kernel_rfl
 f137 := Try.func31.trans (congrArg some (by kernel_rfl))
 f217 := Try.func38.trans (congrArg some (by kernel_rfl))
 f266 := Try.func49.trans (congrArg some (by kernel_rfl))
 t3 := Try.underlying3
 a3 := Try.isAgg3
 z3 := Try.sizeOf3
 v3 := Try.zeroValue3
 t5 := Try.underlying5
 a5 := Try.isAgg5
 z5 := Try.sizeOf5
 v5 := Try.zeroValue5
 t9 := Try.underlying9
 a9 := Try.isAgg9
 z9 := Try.sizeOf9
 v9 := Try.zeroValue9 }
def Try.lays103_ren : Go.Shelf.Ren := ⟨fun | 103 => 51 | 210 => 65 | 206 => 71 | n => n, fun | 9 => 9 | 4 => 4 | 24 => 95 | 3 => 3 | n => n, fun | n => n⟩
def Try.lays167_ren : Go.Shelf.Ren := ⟨fun | 167 => 60 | 240 => 68 | 276 => 73 | n => n, fun | 0 => 0 | 4 => 4 | 5 => 5 | 9 => 9 | 20 => 20 | 37 => 90 | 70 => 108 | 72 => 110 | 75 => 113 | 80 => 111 | 164 => 123 | n => n, fun | n => n⟩
theorem Try.lays167 : Go.Proofs.Lays.n167 Try.prog Try.lays167_ren := {
 mixed := by kernel_rfl
 f167 := Try.func60.trans (congrArg some (by kernel_rfl))
 f240 := Try.func68.trans (congrArg some (by kernel_rfl))
 f276 := Try.func73.trans (congrArg some (by kernel_rfl))
 t0 := Try.underlying0
 a0 := Try.isAgg0
 z0 := Try.sizeOf0
 v0 := Try.zeroValue0
 t4 := Try.underlying4
 a4 := Try.isAgg4
 z4 := Try.sizeOf4
 v4 := Try.zeroValue4
 t5 := Try.underlying5
 a5 := Try.isAgg5
 z5 := Try.sizeOf5
 v5 := Try.zeroValue5
 t9 := Try.underlying9
 a9 := Try.isAgg9
 z9 := Try.sizeOf9
 v9 := Try.zeroValue9
 t20 := Try.underlying20
 a20 := Try.isAgg20
 z20 := Try.sizeOf20
 v20 := Try.zeroValue20
 t37 := Try.underlying90
 a37 := Try.isAgg90
 z37 := Try.sizeOf90
 v37 := Try.zeroValue90
 t70 := Try.underlying108
 a70 := Try.isAgg108
 z70 := Try.sizeOf108
 v70 := Try.zeroValue108
 t72 := Try.underlying110
 a72 := Try.isAgg110
 z72 := Try.sizeOf110
 v72 := Try.zeroValue110
 t75 := Try.underlying113
 a75 := Try.isAgg113
 z75 := Try.sizeOf113
 v75 := Try.zeroValue113
 t164 := Try.underlying123
 a164 := Try.isAgg123
 z164 := Try.sizeOf123
 v164 := Try.zeroValue123 }
theorem Try.Builder_Extra_167 : Builder.Extra Try.prog Try.lays167_ren := {
 sizeBuilder := by kernel_rfl
 liesBuilder := by kernel_rfl
 t5 := Try.underlying5
 a5 := Try.isAgg5
 z5 := Try.sizeOf5
 v5 := Try.zeroValue5
 infoByte := by kernel_rfl
 cellsByte := by kernel_rfl
 sizeByte := by kernel_rfl
 neB5 := by decide }
open Go.RowKit in
theorem Try.Builder_Len_f (B b : Nat) (bs : List Value) (w : World) (h : Lib.IsBuilderF 110 5 B b bs w) :
  Calls Try.prog 59 #[.pointer (some ⟨b, 0, none⟩)] w fun e w' => e = .returned (.int .i64 bs.length) ∧ w' = w := Any.Builder_Len_f Try.lays170 B b bs w h
open Go.RowKit in
theorem Try.Builder_String_any_k (B b : Nat) (l : List UInt8) (w : World) (h : Lib.IsBuilderF 110 5 B b (Lib.byteCells l) w) (hBw : B ≤ w.heap.size) :
  Calls Try.prog 58 #[.pointer (some ⟨b, 0, none⟩)] w fun e w' => e = .returned (.string ⟨l.toArray⟩) ∧ (Lib.IsBuilderF 110 5 B b (Lib.byteCells l) w' ∧ Below B w w' ∧ Lib.OthersKept 5 (some b) w w') := Any.Builder_String_any_k Try.lays169 Try.Builder_Extra_169 B b l w h hBw
open Go.RowKit in
theorem Try.strings_IndexByte (s : ByteArray) (c : Int) (w : World) :
  Calls Try.prog 31 #[.string s, .int .u8 c] w fun e w' => e = .returned (.int .i64 (Lib.indexByte s.data.toList c.toNat.toUInt8)) ∧ w' = w := Any.strings_IndexByte Try.lays137 s c w
open Go.RowKit in
open Go.RowKit in
theorem Try.Builder_WriteByte_k (B b : Nat) (bs : List Value) (c : Int) (w : World) (h : Lib.IsBuilderF 110 5 B b bs w) (hlen : bs.length + 1 ≤ 140737488355328) (hBw : B ≤ w.heap.size) :
  Calls Try.prog 60 #[.pointer (some ⟨b, 0, none⟩), .int .u8 c] w fun e w' => e = .returned .nilIface ∧ (Lib.BuilderAtF 110 5 B b (.pointer (some ⟨b, 0, none⟩)) (bs ++ [.int .u8 c]) w' ∧ Below B w w' ∧ Lib.OthersKept 5 (some b) w w') := Any.Builder_WriteByte_k Try.lays167 Try.Builder_Extra_167 B b bs c w h hlen hBw
end Go.Proofs
set_option maxHeartbeats 16000000
set_option maxRecDepth 100000
namespace Go.Proofs.Ytpodpmjlkbbkoaa.P
open Go.RowKit Go.Proofs.YtpodpmjlkbbkoaaW.PrintWords Go.Proofs.YtpodpmjlkbbkoaaW.PrintLast Go.Proofs.YtpodpmjlkbbkoaaW.PrintMore
def plc (l : List UInt8) (c : UInt8) : Int := match l.findIdx? (· == c) with
 | some i => (i : Int)
 | none => -1
theorem plc_hit (s : ByteArray) (c : UInt8) (i : Nat) (h : i < s.size) (hc : s[i] = c) (hn : ∀ j (hj : j < i), s[j]'(by omega) ≠ c) : plc s.data.toList c = (i : Int) := by
 have : s.data.toList.findIdx? (· == c) = some i := by
  rw [List.findIdx?_eq_some_iff_getElem]
  refine ⟨by simpa using h, by simpa [ByteArray.getElem_eq_getElem_data] using hc, fun j hj => ?_⟩
  simpa [ByteArray.getElem_eq_getElem_data] using hn j hj
 simp [plc, this]
theorem plc_miss (s : ByteArray) (c : UInt8) (hn : ∀ j (hj : j < s.size), s[j] ≠ c) : plc s.data.toList c = -1 := by
 have : s.data.toList.findIdx? (· == c) = none := by
  rw [List.findIdx?_eq_none_iff]
  intro x hx
  obtain ⟨j, hj, rfl⟩ := List.mem_iff_getElem.1 hx
  have hj' : j < s.size := by simpa using hj
  have := hn j hj'
  simpa [ByteArray.getElem_eq_getElem_data] using this
 simp [plc, this]
theorem lex_place.calls (c : UInt8) (s : ByteArray) (ha : ∀ j (h : j < s.size), (s[j]'h).toNat < 128) (w : World) :
  Calls Try.prog 30 #[.int .u8 c.toNat, .string s] w fun e w' => e = .returned (.int .i64 (plc s.data.toList c)) ∧ Below w.heap.size w w' := by
 go_enter Try.func30, Try.ntmps30
 go_wp2
 go_loopw [5] (fun i w' => ∃ pos : Nat, w' = w.iter s pos ∧ pos ≤ s.size ∧ Aside0 (∀ j (hj : j < s.size), j < pos → s[j] ≠ c)) (fun _ w' => s.size - w'.iterPos w.heap.size)
 case atStart => exact ⟨0, rfl, Nat.zero_le _, ⟨fun j _ h => absurd h (Nat.not_lt_zero _)⟩⟩
 case round =>
  obtain ⟨pos, rfl, hle, hno⟩ := hrel
  by_cases hp : pos < s.size
  ·have hnx := fun ty => run_next_ascii (P := Try.prog) w s pos ty hp (ha pos hp)
   have h8 : (((s[pos]'hp).toNat : Int) % 256) = ((s[pos]'hp).toNat : Int) := by have := ha pos hp; omega
   by_cases hc : s[pos]'hp = c
   ·have b : (((s[pos]'hp).toNat : Int) == (c.toNat : Int)) = true := by rw [hc]; exact beq_self_eq_true _
    go_wp2
    go_ret
    refine ⟨?_, (Below.refl _ _).alloc (Nat.le_refl _) _⟩
    rw [plc_hit s c pos hp hc (fun j hj => hno.out j _ hj)]; rfl
   ·have b : (((s[pos]'hp).toNat : Int) == (c.toNat : Int)) = false := by
     refine beq_eq_false_iff_ne.2 fun h => hc ?_
     exact UInt8.toNat_inj.1 (by omega)
    go_wp2
    go_roundw
    case rel =>
     refine ⟨pos + 1, rfl, hp, ⟨fun j hj h => ?_⟩⟩
     rcases Nat.lt_succ_iff_lt_or_eq.1 h with h | rfl
     ·exact hno.out j hj h
     ·exact hc
    case measure =>
     simp
     omega
  ·have hnx := fun ty => run_next_end (P := Try.prog) w s pos ty hp
   go_wp2
   go_ret
   refine ⟨?_, (Below.refl _ _).alloc (Nat.le_refl _) _⟩
   rw [plc_miss s c (fun j hj => hno.out j hj (by omega))]; rfl
def isBlank (c : UInt8) : Bool := decide (0 ≤ plc [32, 9, 10, 13] c)
def isSign (c : UInt8) : Bool := decide (0 ≤ plc [43, 45, 42, 47, 92, 60, 62, 61, 126, 44, 64, 37, 38, 63] c)
def isLetter (c : UInt8) : Bool := (lex_letter.f c.toNat).getD false
def isDigit (c : UInt8) : Bool := (lex_digit.f c.toNat).getD false
def isWord (c : UInt8) : Bool := isLetter c || isDigit c || c == 95
theorem lex_letter.is (c : UInt8) : lex_letter.f c.toNat = some (isLetter c) := by
 unfold isLetter lex_letter.f
 split <;> rfl
theorem lex_digit.is (c : UInt8) : lex_digit.f c.toNat = some (isDigit c) := by
 unfold isDigit lex_digit.f
 split <;> rfl
theorem bS {w w1 w2 : World} (h : Below w.heap.size w w1) (k : Below w1.heap.size w1 w2) : Below w.heap.size w w2 := h.trans (k.mono h.size)
def Tests (f : Nat) (p : UInt8 → Bool) : Prop := ∀ (c : UInt8) (w : World), Calls Try.prog f #[.int .u8 c.toNat] w fun e w' => e = .returned (.bool (p c)) ∧ Below w.heap.size w w'
theorem tests_letter : Tests 39 isLetter := fun c w => (lex_letter.calls c.toNat _ w (lex_letter.is c)).mono fun e w' h => ⟨h.1, h.2.below⟩
theorem tests_digit : Tests 42 isDigit := fun c w => (lex_digit.calls c.toNat _ w (lex_digit.is c)).mono fun e w' h => ⟨h.1, h.2.below⟩
theorem tests_blank : Tests 29 isBlank := by
 intro c w
 go_enter Try.func29, Try.ntmps29
 go_wp2_with (go_at_call 30; refine (lex_place.calls c _ (by decide) _).mono ?_; rintro e w1 ⟨rfl, hb⟩)
 go_ret
 exact ⟨rfl, hb⟩
theorem tests_sign : Tests 61 isSign := by
 intro c w
 go_enter Try.func61, Try.ntmps61
 go_wp2_with (go_at_call 30; refine (lex_place.calls c _ (by decide) _).mono ?_; rintro e w1 ⟨rfl, hb⟩)
 go_ret
 exact ⟨rfl, hb⟩
theorem tests_word : Tests 50 isWord := by
 intro c w
 have hl := lex_letter.is c
 have hd := lex_digit.is c
 cases h1 : isLetter c
 ·rw [h1] at hl
  cases h2 : isDigit c
  ·rw [h2] at hd
   have h3 : ((c.toNat : Int) == 95) = (c == 95) := by
    rw [Bool.eq_iff_iff]
    simp only [beq_iff_eq]
    constructor
    ·intro h; exact UInt8.toNat_inj.1 (by simpa using (by omega : c.toNat = 95))
    ·rintro rfl; rfl
   go_enter Try.func50, Try.ntmps50
   go_wp2_with (first | (go_at_call 39; refine (lex_letter.calls c.toNat _ _ hl).mono ?_; rintro e w1 ⟨rfl, hb1⟩) | (go_at_call 42; refine (lex_digit.calls c.toNat _ _ hd).mono ?_; rintro e w2 ⟨rfl, hb2⟩))
   go_ret
   exact ⟨by simp [isWord, h1, h2], bS hb1.below hb2.below⟩
  ·rw [h2] at hd
   go_enter Try.func50, Try.ntmps50
   go_wp2_with (first | (go_at_call 39; refine (lex_letter.calls c.toNat _ _ hl).mono ?_; rintro e w1 ⟨rfl, hb1⟩) | (go_at_call 42; refine (lex_digit.calls c.toNat _ _ hd).mono ?_; rintro e w2 ⟨rfl, hb2⟩))
   go_ret
   exact ⟨by simp [isWord, h1, h2], bS hb1.below hb2.below⟩
 ·rw [h1] at hl
  go_enter Try.func50, Try.ntmps50
  go_wp2_with (go_at_call 39; refine (lex_letter.calls c.toNat _ _ hl).mono ?_; rintro e w1 ⟨rfl, hb1⟩)
  go_ret
  exact ⟨by simp [isWord, h1], hb1.below⟩
end Go.Proofs.Ytpodpmjlkbbkoaa.P
namespace Go.Proofs.Ytpodpmjlkbbkoaa.P
open Go.RowKit Go.Proofs.YtpodpmjlkbbkoaaW.PrintWords Go.Proofs.YtpodpmjlkbbkoaaW.PrintLast Go.Proofs.YtpodpmjlkbbkoaaW.PrintMore
def hit (p : UInt8 → Bool) (s : ByteArray) (i : Nat) : Bool := if h : i < s.size then p (s[i]'h) else false
theorem still_letter {P : Program} {id : Nat} {Q : Exit → Act → World → Prop} {a : Act} {w : World} {l : List Oper} (n : Nat) (hm : P.follows .mixedOrders = true) (hB : Region.lexTailB .any l.toArray n = true)
  (h : ∀ wd : World, wd.heap = w.heap → Below w.heap.size w wd → wpStill P l.toArray wd (fun a' => wpList P l.toArray Q (l.drop n) a' wd) (l.take n) a) : (Code.region id l.toArray true).wp P Q a w :=
 wp_region_still_tail n hm hB (h w.drew rfl (Below.refl _ _).drew)
def Tester (f : Nat) (p : UInt8 → Bool) : Prop := (∀ args w, (callFunc f args).run Try.prog w = .ok (.enter f args) w) ∧ Tests f p
theorem tester_letter : Tester 39 isLetter := ⟨enters_of Try.func39 (by kernel_rfl) rfl, tests_letter⟩
theorem tester_digit : Tester 42 isDigit := ⟨enters_of Try.func42 (by kernel_rfl) rfl, tests_digit⟩
theorem tester_blank : Tester 29 isBlank := ⟨enters_of Try.func29 (by kernel_rfl) rfl, tests_blank⟩
theorem tester_sign : Tester 61 isSign := ⟨enters_of Try.func61 (by kernel_rfl) rfl, tests_sign⟩
theorem tester_word : Tester 50 isWord := ⟨enters_of Try.func50 (by kernel_rfl) rfl, tests_word⟩
theorem lex_more.calls {f : Nat} {p : UInt8 → Bool} (hf : Tester f p) (g : Nat) (s : ByteArray) (i : Nat) (w0 w : World) (hI : IsS37 w0 w g s i) :
  Calls Try.prog 37 #[.pointer (some ⟨g, 0, none⟩), .func (.func f) #[] #[]] w fun e w' => e = .returned (.bool (hit p s i)) ∧ Below w.heap.size w w' := by
 by_cases h : i < s.size
 ·have c0 : decide ((i : Int) < (s.size : Int)) = true := decide_eq_true (by omega)
  have hent := hf.1
  go_enter Try.func37, Try.ntmps37
  go_wp2
  refine still_letter 21 (by kernel_rfl) (by kernel_rfl) ?_
  intro wd hwd hbd
  simp only [List.take_succ_cons, List.take_zero, List.drop_succ_cons, List.drop_zero]
  have hc0 := cellS37_0 (hI.below hbd).1
  have hc1 := cellS37_1 (hI.below hbd).1
  repeat still_step
  refine wpStill_nil ?_
  clear hc0 hc1
  go_wp2_with (go_at_fn f; refine (hf.2 _ _).mono ?_; rintro e w1 ⟨rfl, hb1⟩)
  go_ret
  exact ⟨by simp [hit, h], bS hbd hb1⟩
 ·have c0 : decide ((i : Int) < (s.size : Int)) = false := decide_eq_false (by omega)
  have hc0 := cellS37_0 hI.1
  have hc1 := cellS37_1 hI.1
  go_enter Try.func37, Try.ntmps37
  go_wp2
  repeat (go_quiet (fail); try go_wp2)
  go_ret
  exact ⟨by simp [hit, h], by repeat (first | exact Below.refl _ _ | apply pw_below_drewN)⟩
def ends (p : UInt8 → Bool) (s : ByteArray) (i : Nat) : Nat := if h : i < s.size then (if p (s[i]'h) then ends p s (i + 1) else i) else i
 termination_by s.size - i
theorem ends_hit {p : UInt8 → Bool} {s : ByteArray} {i : Nat} (h : hit p s i = true) : ends p s i = ends p s (i + 1) := by
 unfold hit at h
 split at h
 case isTrue hi => rw [ends, dif_pos hi, if_pos h]
 case isFalse => cases h
theorem ends_miss {p : UInt8 → Bool} {s : ByteArray} {i : Nat} (h : hit p s i = false) : ends p s i = i := by
 unfold hit at h
 rw [ends]
 split at h
 case isTrue hi => rw [dif_pos hi, if_neg (by simp [h])]
 case isFalse hi => rw [dif_neg hi]
theorem hit_lt {p : UInt8 → Bool} {s : ByteArray} {i : Nat} (h : hit p s i = true) : i < s.size := by
 unfold hit at h
 split at h
 case isTrue hi => exact hi
 case isFalse => cases h
def atOf (w : World) (g : Nat) : Nat := match w.heap[g]? with
 | some (.cells cs _ _) => (intOf (cs.getD 1 undef)).toNat
 | _ => 0
theorem atOf_is {w0 w : World} {g : Nat} {s : ByteArray} {i : Nat} (h : IsS37 w0 w g s i) : atOf w g = i := by
 unfold atOf
 rw [h.1]
 rfl
theorem wrap_in (n : Int) (h0 : 0 ≤ n) (h1 : n ≤ 4611686018427387904) : wrap64 n = n ∧ IntKind.i64.wrap n = n := by
 have h : wrap64 n = n := by unfold wrap64; omega
 exact ⟨h, (i64_w n).trans h⟩
theorem keepB {w w1 w2 : World} {g : Nat} (h : KeepBut w w1 g none) (k : Below w1.heap.size w1 w2) : KeepBut w w2 g none := h.trans (KeepBut.of_below k g none) (.inl rfl)
theorem bS0 {w0 w1 w2 : World} (h : Below w0.heap.size w0 w1) (k : Below w1.heap.size w1 w2) : Below w0.heap.size w0 w2 := below_step h k
theorem lex_skip.calls {f : Nat} {p : UInt8 → Bool} (hf : Tester f p) (g : Nat) (s : ByteArray) (i : Nat) (hi : i ≤ s.size) (hs : s.size ≤ 140737488351232) (w0 w : World) (hI : IsS37 w0 w g s i) (hB : Below w0.heap.size w0 w) :
  Calls Try.prog 28 #[.pointer (some ⟨g, 0, none⟩), .func (.func f) #[] #[]] w fun e w' => e = .returned (.tuple #[]) ∧ IsS37 w0 w' g s (ends p s i : Nat) ∧ Below w0.heap.size w0 w' ∧ KeepBut w w' g none := by
 go_enter Try.func28, Try.ntmps28
 go_wp2
 go_loopw [] (fun w' => ∃ j : Nat, Aside0 (IsS37 w0 w' g s (j : Int) ∧ Below w0.heap.size w0 w' ∧ KeepBut w w' g none) ∧ Aside0 (j ≤ s.size ∧ ends p s j = ends p s i)) (fun w' => s.size - atOf w' g)
 case atStart => exact ⟨i, ⟨hI, hB, KeepBut.refl _ _ _⟩, ⟨hi, rfl⟩⟩
 case round =>
  obtain ⟨j, ⟨hIj, hBj, hKj⟩, ⟨hj, hej⟩⟩ := hrel
  have hm0 := Aside0.mk (atOf_is hIj)
  cases hh : hit p s j
  ·go_wp2_with (go_at_call 37; refine (lex_more.calls hf g s j w0 _ hIj).mono ?_; rintro e w1 ⟨rfl, hb1⟩; rw [hh])
   go_end0
   rw [ends_miss hh] at hej
   exact ⟨rfl, hej ▸ hIj.below hb1, bS0 hBj hb1, keepB hKj hb1⟩
  ·have hlt := hit_lt hh
   have hw := wrap_in ((j : Int) + 1) (by omega) (by omega)
   have hw1 := hw.1
   have hw2 := hw.2
   clear hw
   have hlt2 := Aside0.mk hlt
   clear hlt
   go_wp2_with (go_at_call 37; refine (lex_more.calls hf g s j w0 _ hIj).mono ?_; rintro e w1 ⟨rfl, hb1⟩; rw [hh]; have hI1 := hIj.below hb1; have hc1 := cellS37_1 hI1.1; have hf1 := blk_frozen hI1.1 1)
   go_roundw
   case rel =>
    refine ⟨j + 1, ⟨?_, ?_, ?_⟩, ⟨hlt2.out, ?_⟩⟩
    ·have := hI1.set_1 ((j : Int) + 1)
     simpa using this
    ·exact below_set (bS0 hBj hb1) (IsS37.ge hI1)
    ·exact (keepB hKj hb1).set_ _ _
    ·rw [← hej]; exact (ends_hit hh).symm
   case measure =>
    rw [hm0.out, atOf_is (i := j + 1) (w0 := w0) (s := s) (by have := hI1.set_1 ((j : Int) + 1); simpa using this)]
    have := hlt2.out
    omega
end Go.Proofs.Ytpodpmjlkbbkoaa.P
namespace Go.Proofs.Ytpodpmjlkbbkoaa.P
open Go.RowKit Go.Proofs.YtpodpmjlkbbkoaaW.PrintWords Go.Proofs.YtpodpmjlkbbkoaaW.PrintLast Go.Proofs.YtpodpmjlkbbkoaaW.PrintMore
theorem ends_le (p : UInt8 → Bool) (s : ByteArray) (i : Nat) (h : i ≤ s.size) : ends p s i ≤ s.size := by
 induction hn : s.size - i generalizing i with
 | zero => rw [ends, dif_neg (by omega)]; exact h
 | succ n ih =>
  rw [ends]
  split
  ·split
   ·exact ih (i + 1) (by omega) (by omega)
   ·exact h
  ·exact h
theorem ends_ge (p : UInt8 → Bool) (s : ByteArray) (i : Nat) : i ≤ ends p s i := by
 induction hn : s.size - i generalizing i with
 | zero => rw [ends, dif_neg (by omega)]; exact Nat.le_refl _
 | succ n ih =>
  rw [ends]
  split
  ·split
   ·exact Nat.le_trans (Nat.le_succ _) (ih (i + 1) (by omega))
   ·exact Nat.le_refl _
  ·exact Nat.le_refl _
def nameEnd (s : ByteArray) (i : Nat) : Nat := if hit isLetter s i then ends isWord s i else i
theorem nameEnd_le (s : ByteArray) (i : Nat) (h : i ≤ s.size) : nameEnd s i ≤ s.size := by unfold nameEnd; split; exact ends_le _ _ _ h; exact h
theorem nameEnd_ge (s : ByteArray) (i : Nat) : i ≤ nameEnd s i := by unfold nameEnd; split; exact ends_ge _ _ _; exact Nat.le_refl _
def signEnd (s : ByteArray) (i : Nat) : Nat := if hit isSign s i then (if hit isSign s (i + 1) then i + 2 else i + 1) else i
theorem signEnd_le (s : ByteArray) (i : Nat) (h : i ≤ s.size) : signEnd s i ≤ s.size := by
 unfold signEnd
 split
 case isTrue h1 =>
  split
  case isTrue h2 => have := hit_lt h2; omega
  case isFalse => have := hit_lt h1; omega
 case isFalse => exact h
theorem lex_name.calls (g : Nat) (s : ByteArray) (i : Nat) (hi : i ≤ s.size) (hs : s.size ≤ 140737488351232) (w0 w : World) (hI : IsS37 w0 w g s i) (hB : Below w0.heap.size w0 w) :
  Calls Try.prog 40 #[.pointer (some ⟨g, 0, none⟩)] w fun e w' => e = .returned (.bool (hit isLetter s i)) ∧ IsS37 w0 w' g s (nameEnd s i : Nat) ∧ Below w0.heap.size w0 w' ∧ KeepBut w w' g none := by
 cases hh : hit isLetter s i
 ·go_enter Try.func40, Try.ntmps40
  go_wp2_with (go_at_call 37; refine (lex_more.calls tester_letter g s i w0 _ hI).mono ?_; rintro e w1 ⟨rfl, hb1⟩; rw [hh])
  go_ret
  refine ⟨rfl, ?_, bS0 hB hb1, KeepBut.of_below hb1 _ _⟩
  unfold nameEnd
  rw [hh]
  exact hI.below hb1
 ·go_enter Try.func40, Try.ntmps40
  go_wp2_with (first | (go_at_call 37; refine (lex_more.calls tester_letter g s i w0 _ hI).mono ?_; rintro e w1 ⟨rfl, hb1⟩; rw [hh]) | (go_at_call 28; refine (lex_skip.calls tester_word g s i hi hs w0 _ (hI.below hb1) (bS0 hB hb1)).mono ?_; rintro e w2 ⟨rfl, hI2, hB2, hK2⟩))
  go_ret
  refine ⟨rfl, ?_, hB2, (KeepBut.of_below hb1 g none).trans hK2 (.inl rfl)⟩
  unfold nameEnd
  rw [hh]
  exact hI2
theorem sign_out {s : ByteArray} {i j : Nat} (h : j = i ∨ j = i + 1 ∧ hit isSign s i = true ∨ j = i + 2 ∧ hit isSign s i = true ∧ hit isSign s (i + 1) = true) (k : hit isSign s j = false ∨ i + 2 ≤ j) : decide (i < j) = hit isSign s i ∧ signEnd s i = j := by
 unfold signEnd
 rcases h with rfl | ⟨rfl, h1⟩ | ⟨rfl, h1, h2⟩
 ·rcases k with k | k
  ·rw [k]; exact ⟨by simp, by simp⟩
  ·omega
 ·rcases k with k | k
  ·rw [h1, k]; exact ⟨by simp, by simp⟩
  ·omega
 ·rw [h1, h2]; exact ⟨by simp, by simp⟩
theorem lex_sign.calls (g : Nat) (s : ByteArray) (i : Nat) (hi : i ≤ s.size) (hs : s.size ≤ 140737488351232) (w0 w : World) (hI : IsS37 w0 w g s i) (hB : Below w0.heap.size w0 w) :
  Calls Try.prog 47 #[.pointer (some ⟨g, 0, none⟩)] w fun e w' => e = .returned (.bool (hit isSign s i)) ∧ IsS37 w0 w' g s (signEnd s i : Nat) ∧ Below w0.heap.size w0 w' ∧ KeepBut w w' g none := by
 have hc0 := cellS37_1 hI.1
 have hw := wrap_in ((i : Int) + 2) (by omega) (by omega)
 have hw1 := hw.1
 have hw2 := hw.2
 clear hw
 go_enter Try.func47, Try.ntmps47
 go_wp2
 clear hc0
 go_loopw [] (fun w' => ∃ j : Nat, Aside0 (IsS37 w0 w' g s (j : Int) ∧ Below w0.heap.size w0 w' ∧ KeepBut w w' g none) ∧ Aside0 (j ≤ s.size ∧ (j = i ∨ (j = i + 1 ∧ hit isSign s i = true) ∨ (j = i + 2 ∧ hit isSign s i = true ∧ hit isSign s (i + 1) = true)))) (fun w' => s.size - atOf w' g)
 case atStart => exact ⟨i, ⟨hI, hB, KeepBut.refl _ _ _⟩, ⟨hi, .inl rfl⟩⟩
 case round =>
  obtain ⟨j, ⟨hIj, hBj, hKj⟩, ⟨hj, hej⟩⟩ := hrel
  have hm0 := Aside0.mk (atOf_is hIj)
  have hcj := cellS37_1 hIj.1
  by_cases h2 : j < i + 2
  ·have a : decide ((j : Int) < (i : Int) + 2) = true := decide_eq_true (by omega)
   have h2a := Aside0.mk h2
   clear h2
   cases hh : hit isSign s j
   ·go_wp2_with (go_at_call 37; refine (lex_more.calls tester_sign g s j w0 _ hIj).mono ?_; rintro e b ⟨rfl, hb1⟩; rw [hh]; have hI1 := hIj.below hb1; clear hcj; have hc1 := cellS37_1 hI1.1)
    go_ret
    obtain ⟨r1, r2⟩ := sign_out hej (.inl hh)
    refine ⟨?_, r2 ▸ hI1, bS0 hBj hb1, keepB hKj hb1⟩
    rw [← r1]
    rfl
   ·have hlt2 := Aside0.mk (hit_lt hh)
    have hwj := wrap_in ((j : Int) + 1) (by have := hit_lt hh; omega) (by have := hit_lt hh; omega)
    have hwj1 := hwj.1
    have hwj2 := hwj.2
    clear hwj
    go_wp2_with (go_at_call 37; refine (lex_more.calls tester_sign g s j w0 _ hIj).mono ?_; rintro e b ⟨rfl, hb1⟩; rw [hh]; have hI1 := hIj.below hb1; clear hcj; have hc1 := cellS37_1 hI1.1; have hf1 := blk_frozen hI1.1 1)
    go_roundw
    case rel =>
     refine ⟨j + 1, ⟨?_, ?_, ?_⟩, ⟨hlt2.out, ?_⟩⟩
     ·have := hI1.set_1 ((j : Int) + 1)
      simpa using this
     ·exact below_set (bS0 hBj hb1) (IsS37.ge hI1)
     ·exact (keepB hKj hb1).set_ _ _
     ·have := h2a.out
      rcases hej with rfl | ⟨rfl, h⟩ | ⟨rfl, _, _⟩
      ·exact .inr (.inl ⟨rfl, hh⟩)
      ·exact .inr (.inr ⟨rfl, h, hh⟩)
      ·omega
    case measure =>
     rw [hm0.out, atOf_is (i := j + 1) (w0 := w0) (s := s) (by have := hI1.set_1 ((j : Int) + 1); simpa using this)]
     have := hlt2.out
     omega
  ·have a : decide ((j : Int) < (i : Int) + 2) = false := decide_eq_false (by omega)
   obtain ⟨r1, r2⟩ := sign_out hej (.inr (by omega))
   clear h2
   go_wp2
   go_ret
   refine ⟨?_, r2 ▸ hIj, hBj, hKj⟩
   rw [← r1]
   rfl
end Go.Proofs.Ytpodpmjlkbbkoaa.P
