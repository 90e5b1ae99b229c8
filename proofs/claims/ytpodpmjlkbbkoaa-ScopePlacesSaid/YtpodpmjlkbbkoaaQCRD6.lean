import Derived.Test.YtpodpmjlkbbkoaaQCRD1
import Derived.WalkSpells
import Derived.Outline
import Derived.StillTailTactics
import Derived.LoopTactic
import Derived.RangeFuncBox
import Derived.RangeFuncLeaves
import Derived.Shelf.Abstract
import Derived.OwnWalkIn
import Derived.TacticsInMore
import Derived.LoopNIn
import Derived.LoopIn
import Derived.Maps.AppendAt
import Derived.RangeFuncNested
import Derived.Sort.LoopGhostIn
set_option linter.all false
set_option maxHeartbeats 16000000
set_option maxRecDepth 100000
namespace Go.Proofs.Ytpodpmjlkbbkoaa.P
open Go.RowKit Go.Proofs.YtpodpmjlkbbkoaaW.PrintWords Go.Proofs.YtpodpmjlkbbkoaaW.PrintLast Go.Proofs.YtpodpmjlkbbkoaaW.PrintMore
attribute [local go_sem] max2_int min2_int max_two min_two max_three min_three max_four min_four
def slices_Clone_byte_byte.f (l0 : List Int) : Option (List Int) := if l0.length ≤ 140737488355328 then some l0 else none
theorem slices_Clone_byte_byte.calls (A0 : Option Addr) (c0 : Nat) (l0 : List Int) (r : List Int) (w : World) (hr0 : Kd.C (Kd.int .u8) w A0 l0.length l0) (hc0 : l0.length ≤ c0) (h : slices_Clone_byte_byte.f l0 = some r) :
  Calls Try.prog 78 #[.slice A0 l0.length c0] w fun e w' => ∃ v0_ : Value, e = .returned (v0_) ∧ Kd.R (Kd.int .u8) 5 w' w.heap.size (fun _ => True) v0_ r ∧ Below w.heap.size w w' := by
 unfold slices_Clone_byte_byte.f at h
 split at h
 case isFalse => cases h
 case isTrue hlen =>
 obtain rfl := Option.some.inj h
 clear h
 cases A0 with
 | none =>
  have h0 : l0.length = 0 := by
   rcases Nat.eq_zero_or_pos l0.length with h0 | h0
   ·exact h0
   ·obtain ⟨ad, e, _⟩ := Kd.at_int hr0 0 (by omega) (by omega)
    cases e
  obtain rfl := List.eq_nil_of_length_eq_zero h0
  have heq := fun (w : World) (a : Option Addr) (n c : Nat) => Lib.run_eql_slice_nil (P := Try.prog) w 90 5 a n c 0 0 Try.underlying90
  go_enter Try.func78, Try.ntmps78
  go_wp2
  go_ret
  exact ⟨_, rfl, Kd.R_nil _ _ _ _ _, Below.refl _ _⟩
 | some ad =>
  have heq := fun (w : World) (a : Option Addr) (n c : Nat) => Lib.run_eql_slice_nil (P := Try.prog) w 90 5 a n c 0 0 Try.underlying90
  have HR := Aside0.mk hr0
  clear hr0
  go_enter Try.func78, Try.ntmps78
  go_wp2_with (first | ((with_reducible refine gate_dst (N := 7) rfl ?_); refine Kd.R_append_row (w0 := w) (Value.int .u8) (0 : Int) (h1 := fun _ => rfl) w.heap.size rfl (.tmp 5) (.tmp 6) 90 5 (.int .u8 0) 1 rfl Try.underlying90 info5 rfl (by decide) (.slice (some ⟨w.heap.size, 0, none⟩) 0 0) [] l0 (some ad) l0.length c0 (fun _ => True) rfl rfl (fun _ _ => trivial) ?ho ?hr ?hb ?hs ?hl ?_; (case ho => exact Kd.R_of_own (own_lit w w.heap.size 5 .u8 [] (Nat.le_refl _) (by decide)) (fun _ _ => trivial)); (case hr => exact Kd.C_below HR.out (below_alloc (Below.refl _ _) _)); (case hb => exact below_alloc (Below.refl _ _) _); (case hs => simp); (case hl => simpa using hlen); intro b d hv hb1 _ _; have HV := Aside0.mk hv; have HB := Aside0.mk hb1; clear hv hb1))
  go_ret
  exact ⟨_, rfl, HV.out, HB.out⟩
end Go.Proofs.Ytpodpmjlkbbkoaa.P
namespace Go.Proofs.Ytpodpmjlkbbkoaa.P
open Go.RowKit Go.Proofs.YtpodpmjlkbbkoaaW.PrintWords Go.Proofs.YtpodpmjlkbbkoaaW.PrintLast Go.Proofs.YtpodpmjlkbbkoaaW.PrintMore
attribute [local go_sem] max2_int min2_int max_two min_two max_three min_three max_four min_four
open Go.Shelf
attribute [local go_sem] Oper.semAt_some
def upto {α : Type} (f : Nat → α) (k : Nat) : List α := (List.range k).map f
theorem upto_succ {α : Type} (f : Nat → α) (k : Nat) : upto f (k + 1) = upto f k ++ [f k] := by simp [upto, List.range_succ]
theorem upto_length {α : Type} (f : Nat → α) (k : Nat) : (upto f k).length = k := by simp [upto]
def fromLast (zs : List Int) (j : Nat) : Int × Int := ((zs.length : Int) - 1 - j, rd zs ((zs.length : Int) - 1 - j))
theorem back_in (F : Fence) (n : Nat) (hf : F.fn 81) (hro : F.round = none) (hn : 1 ≤ n) (l Bs : Nat) (ad : Addr) (cap : Nat) (zs : List Int) (hreach : zs.length ≤ 9223372036854775807) (Kp : World → World → Prop) (hKr : ∀ W, Kp W W) (hKt : ∀ {A B C : World}, Kp A B → Kp B C → Kp A C) (J Jx : List (Int × Int) → World → Prop)
  (hY : ∀ pre x W, J pre W → pre.length < zs.length → YieldAt F (n - 1) Try.prog l #[.int .i64 x.1, .int .u32 x.2] W fun e W' =>
   (e = .returned (.bool true) ∧ J (pre ++ [x]) W' ∧ Kp W W') ∨ (e = .returned (.bool false) ∧ Jx (pre ++ [x]) W'))
  (W : World) (hBs : ∀ W', Kp W W' → W'.cell? ⟨Bs, 0, none⟩ = some (.slice (some ad) zs.length cap)) (hc : ∀ W', Kp W W' → ∀ j, j < zs.length → W'.cell? (ad.add j) = some (.int .u32 (zs.getD j 0))) (h0 : J [] W) :
  CallsIn F n Try.prog 81 #[.func (.yield l) #[] #[], .pointer (some ⟨Bs, 0, none⟩)] W fun e W' => (∃ v, e = .returned v) ∧
   ((∃ ys, ys = upto (fromLast zs) zs.length ∧ J ys W') ∨ (∃ pre, (∃ k, k ≤ zs.length ∧ pre = upto (fromLast zs) k) ∧ Jx pre W')) := by
 have HBs := Aside0.mk hBs
 have HC := Aside0.mk hc
 have hBs0 := hBs W (hKr W)
 have HKt := Aside0.mk @hKt
 have HKr := Aside0.mk (hKr W)
 clear hBs hc hKt hKr
 refine callsIn_of_wp Try.func81 rfl hf ?_ hro
 simp only [Try.ntmps81, List.size_toArray, List.length_cons, List.length_nil, Nat.reduceAdd, Nat.reduceSub, Array.replicate_succ, Array.replicate_zero, List.push_toArray, List.append_toArray, List.nil_append, List.cons_append]
 gi_wp2
 gi_loopw [3] (fun i wr => ∃ k : Nat, k ≤ zs.length ∧ i = .int .i64 ((zs.length : Int) - 1 - k) ∧ J (upto (fromLast zs) k) wr ∧ Aside0 (Kp W wr))
  (fun i _ => (intOf i + 1).toNat)
 case atStart => exact ⟨0, Nat.zero_le _, by simp, h0, HKr⟩
 case round =>
  obtain ⟨k, hk, rfl, hJs, hnx⟩ := hrel
  by_cases hlt : k < zs.length
  ·have hcx : wr.cell? (ad.add (zs.length - 1 - k)) = some (.int .u32 (fromLast zs k).2) := by
    rw [HC.out wr hnx.out _ (by omega)]
    unfold fromLast rd
    rw [show ((zs.length : Int) - 1 - k).toNat = zs.length - 1 - k by omega]
   have hbx : wr.cell? ⟨Bs, 0, none⟩ = some (.slice (some ad) zs.length cap) := HBs.out wr hnx.out
   obtain ⟨fn, tmps, assign, body, hy, hR⟩ := hY _ (fromLast zs k) wr hJs (by rw [upto_length]; exact hlt)
   have hx1 : (fromLast zs k).1 = (zs.length : Int) - 1 - k := rfl
   rw [hx1] at hy
   clear hx1
   gi_wp2
   refine hR.mono ?_
   rintro e W3 (⟨rfl, hJ3, hk3⟩ | ⟨rfl, hJx3⟩)
   ·gi_wp2
    go_roundw
    case rel => exact ⟨k + 1, by omega, by go_num, by rw [upto_succ]; exact hJ3, ⟨HKt.out hnx.out hk3⟩⟩
    case measure => simp [intOf]; omega
   ·gi_wp2
    refine bodyPost_ret (results_none rfl _ _ _) rfl ?_
    exact ⟨⟨_, rfl⟩, .inr ⟨_, ⟨k + 1, by omega, (upto_succ _ _).symm⟩, hJx3⟩⟩
  ·obtain rfl : k = zs.length := by omega
   gi_wp2
   go_end0
   exact ⟨⟨_, rfl⟩, .inl ⟨_, rfl, hJs⟩⟩
theorem back_nil_in (F : Fence) (n : Nat) (hf : F.fn 81) (hro : F.round = none) (l Bs c : Nat) (J : List (Int × Int) → World → Prop) (W : World) (hBs : W.cell? ⟨Bs, 0, none⟩ = some (.slice none 0 c)) (h0 : J [] W) :
  CallsIn F n Try.prog 81 #[.func (.yield l) #[] #[], .pointer (some ⟨Bs, 0, none⟩)] W fun e W' => (∃ v, e = .returned v) ∧ J [] W' := by
 refine callsIn_of_wp Try.func81 rfl hf ?_ hro
 simp only [Try.ntmps81, List.size_toArray, List.length_cons, List.length_nil, Nat.reduceAdd, Nat.reduceSub, Array.replicate_succ, Array.replicate_zero, List.push_toArray, List.append_toArray, List.nil_append, List.cons_append]
 gi_wp2
 gi_loopw [3] (fun i wr => i = .int .i64 (-1) ∧ J [] wr) (fun _ _ => 0)
 case atStart => exact ⟨rfl, h0⟩
 case round =>
  obtain ⟨rfl, hJs⟩ := hrel
  gi_wp2
  go_end0
  exact ⟨⟨_, rfl⟩, hJs⟩
theorem backward_in (F : Fence) (n : Nat) (h5 : F.fn 77) (hro : F.round = none) (a : Option Addr) (len cap : Nat) (w : World) :
  CallsIn F n Try.prog 77 #[.slice a len cap] w fun e w' => e = .returned (.func (.func 81) #[] #[.pointer (some ⟨w.heap.size, 0, none⟩)]) ∧ w' = w.alloc (.cells #[.slice a len cap] 103) := by
 refine callsIn_of_wp Try.func77 rfl h5 ?_ hro
 simp only [Try.ntmps77, List.size_toArray, List.length_cons, List.length_nil, Nat.reduceAdd, Nat.reduceSub, Array.replicate_succ, Array.replicate_zero, List.push_toArray, List.append_toArray, List.nil_append, List.cons_append]
 gi_wp2
 go_ret
 exact ⟨rfl, rfl⟩
def KpB (g n₁ : Nat) (W W' : World) : Prop := ∀ k, k < n₁ → k ≠ g → W'.heap[k]? = W.heap[k]?
theorem KpB.refl (g n₁ : Nat) (W : World) : KpB g n₁ W W := fun _ _ _ => rfl
theorem KpB.trans {g n₁ : Nat} {A B C : World} (h : KpB g n₁ A B) (k : KpB g n₁ B C) : KpB g n₁ A C := fun i hi hg => (k i hi hg).trans (h i hi hg)
theorem KpB.put {g n₁ : Nat} {w : World} (hn : n₁ ≤ w.heap.size) : ∀ (W : World) (l : Nat) (o o' : Obj), w.heap.size ≤ l → W.heap[l]? = some o → o.isCells = false → o.isWalk = false → KpB g n₁ W (W.putObj l o') :=
 fun W l o o' hl _ _ _ k hk _ => World.putObj_heap_other (by omega)
theorem back_stops (F : Fence) (n : Nat) (h7 : F.fn 81) (hro : F.round = none) (hn : 1 ≤ n) (Bs g : Nat) (A : Option Addr) (cap : Nat) (zs : List Int) (hreach : zs.length ≤ 9223372036854775807) (w : World) (hBs : Bs < w.heap.size) (hBg : Bs ≠ g)
  (hc : w.cell? ⟨Bs, 0, none⟩ = some (.slice A zs.length cap)) (hI : ∀ W', (∀ k, k < w.heap.size → k ≠ g → W'.heap[k]? = w.heap[k]?) → ReadsInt W' .u32 A zs.length zs) :
  SeqStopsK F n Try.prog 81 #[.pointer (some ⟨Bs, 0, none⟩)] (fun x : Int × Int => #[Value.int .i64 x.1, Value.int .u32 x.2]) (KpB g w.heap.size) (fun ys => ys = upto (fromLast zs) zs.length)
   (fun pre => ∃ k, k ≤ zs.length ∧ pre = upto (fromLast zs) k) zs.length w := fun l J Jx W hW _ _ hY h0 => by
 have hag : ∀ W', KpB g w.heap.size W W' → ∀ k, k < w.heap.size → k ≠ g → W'.heap[k]? = w.heap[k]? := fun W' hk k h1 h2 => (hk k h1 h2).trans (hW.block k h1)
 have hcB : ∀ W', KpB g w.heap.size W W' → W'.cell? ⟨Bs, 0, none⟩ = some (.slice A zs.length cap) := fun W' hk => (World.cell?_of_block (w := w) (hag W' hk Bs hBs hBg)).trans hc
 cases A with
 | none =>
  have hz : zs.length = 0 := by
   rcases Nat.eq_zero_or_pos zs.length with h | h
   ·exact h
   ·obtain ⟨ad, e, _⟩ := (hI w (fun _ _ _ => rfl)).2.2 h; cases e
  obtain rfl := List.eq_nil_of_length_eq_zero hz
  exact (back_nil_in F n h7 hro l Bs cap J W (hcB W (KpB.refl _ _ _)) h0).mono fun e W' ⟨he, hj⟩ => ⟨he, .inl ⟨_, rfl, hj⟩⟩
 | some ad =>
  refine back_in F n h7 hro hn l Bs ad cap zs hreach (KpB g w.heap.size) (KpB.refl _ _) (fun h k => h.trans k) J Jx hY W hcB (fun W' hk j hj => ?_) h0
  obtain ⟨ad', e, hcell⟩ := (hI W' (hag W' hk)).2.2 (by omega)
  cases e
  exact hcell j hj
end Go.Proofs.Ytpodpmjlkbbkoaa.P
set_option maxHeartbeats 16000000
set_option maxRecDepth 100000
namespace Go.Proofs.Ytpodpmjlkbbkoaa.P
open Go.RowKit Go.Proofs.YtpodpmjlkbbkoaaW.PrintWords Go.Proofs.YtpodpmjlkbbkoaaW.PrintLast Go.Proofs.YtpodpmjlkbbkoaaW.PrintMore
attribute [local go_sem] max2_int min2_int max_two min_two max_three min_three max_four min_four
def strip (l : List Int) : List Int := l.dropWhile (fun x => x == 0)
open Go.Shelf
attribute [local go_sem] Oper.semAt_some
section
variable {F : Fence} {n : Nat} {P : Program} {ops : Array Oper} {Q : Exit → Act → World → Prop}
theorem wpListIn_head {o : Oper} {i : Nat} {rest : List Oper} {K : Act → World → Prop} {a : Act} {w : World} (hi : ops[i]? = some o) (hK : ∀ a w, wpListIn F n P ops Q rest a w → K a w) (h : wpListIn F n P ops Q (o :: rest) a w) : wpOpIn F n P ops Q i K a w := by
 unfold wpOpIn
 rw [hi]
 simp only [wpListIn] at h ⊢
 split at h
 ·rename_i hw
  rw [if_pos hw]
  exact Oper.wpIn_mono hK h
 ·rename_i hw
  rw [if_neg hw]
  exact ⟨h.1, hK _ _ h.2⟩
theorem wpIn_region_two {id : Nat} {o0 o1 o2 o3 : Oper} {a : Act} {w : World} (hm : P.follows .mixedOrders = true)
  (r0 : Region.ready .any #[o0, o1, o2, o3] #[false, false, false, false] = [0, 1]) (r1 : Region.ready .any #[o0, o1, o2, o3] #[true, false, false, false] = [1]) (r2 : Region.ready .any #[o0, o1, o2, o3] #[false, true, false, false] = [0])
  (r3 : Region.ready .any #[o0, o1, o2, o3] #[true, true, false, false] = [2]) (r4 : Region.ready .any #[o0, o1, o2, o3] #[true, true, true, false] = [3]) (r5 : Region.ready .any #[o0, o1, o2, o3] #[true, true, true, true] = [])
  (h1 : wpListIn F n P #[o0, o1, o2, o3] Q [o0, o1, o2, o3] a w.drew) (h2 : wpListIn F n P #[o0, o1, o2, o3] Q [o1, o0, o2, o3] a w.drew) :
  (Code.region id #[o0, o1, o2, o3] true).wpIn F n P Q a w := by
 refine wpIn_region_any hm ?_
 show wpAnyIn F n P .any #[o0, o1, o2, o3] Q 4 #[false, false, false, false] a w.drew
 have tail : ∀ a w, wpListIn F n P #[o0, o1, o2, o3] Q [o2, o3] a w → wpAnyIn F n P .any #[o0, o1, o2, o3] Q 2 #[true, true, false, false] a w := by
  intro a w h
  refine ⟨fun h0 => (by rw [r3] at h0; cases h0), fun i hi => ?_⟩
  rw [r3] at hi
  obtain rfl := List.mem_singleton.1 hi
  refine wpListIn_head (o := o2) rfl (fun a w h => ?_) h
  refine ⟨fun h0 => (by simp at h0; rw [r4] at h0; cases h0), fun i hi => ?_⟩
  simp only [List.setIfInBounds_toArray, List.set_cons_succ, List.set_cons_zero] at hi ⊢
  rw [r4] at hi
  obtain rfl := List.mem_singleton.1 hi
  refine wpListIn_head (o := o3) rfl (fun a w h => ?_) h
  exact ⟨by simpa using r5, h⟩
 refine ⟨fun h0 => (by rw [r0] at h0; cases h0), fun i hi => ?_⟩
 rw [r0] at hi
 rcases List.mem_cons.1 hi with rfl | hi
 ·refine wpListIn_head (o := o0) rfl (fun a w h => ?_) h1
  refine ⟨fun h0 => (by simp at h0; rw [r1] at h0; cases h0), fun i hi => ?_⟩
  simp only [List.setIfInBounds_toArray, List.set_cons_succ, List.set_cons_zero] at hi ⊢
  rw [r1] at hi
  obtain rfl := List.mem_singleton.1 hi
  exact wpListIn_head (o := o1) rfl (fun a w h => tail a w h) h
 ·obtain rfl := List.mem_singleton.1 hi
  refine wpListIn_head (o := o1) rfl (fun a w h => ?_) h2
  refine ⟨fun h0 => (by simp at h0; rw [r2] at h0; cases h0), fun i hi => ?_⟩
  simp only [List.setIfInBounds_toArray, List.set_cons_succ, List.set_cons_zero] at hi ⊢
  rw [r2] at hi
  obtain rfl := List.mem_singleton.1 hi
  exact wpListIn_head (o := o0) rfl (fun a w h => tail a w h) h
end
def four (n : Int) : List Int := [n / 16777216 % 256, n / 65536 % 256, n / 256 % 256, n % 256]
def flat (l : List (Int × Int)) : List Int := l.flatMap fun x => four x.2
theorem flat_snoc (l : List (Int × Int)) (x : Int × Int) : flat (l ++ [x]) = flat l ++ four x.2 := by simp [flat]
theorem flat_length (l : List (Int × Int)) : (flat l).length = 4 * l.length := by
 induction l with
 | nil => rfl
 | cons x r ih => simp [flat, four] at ih ⊢; omega
theorem C_agree {k : IntKind} {w W' : World} {A : Option Addr} {n : Nat} {xs : List Int} (h : (Kd.int k).C w A n xs) (hag : ∀ b, b < w.heap.size → W'.heap[b]? = w.heap[b]?) : (Kd.int k).C W' A n xs := by
 have hr := Kd.reads_of_C (enc := Value.int k) (d := (0 : Int)) (h1 := fun _ => rfl) h
 refine Kd.C_of_reads (d := (0 : Int)) ⟨hr.1, hr.2.1, fun hn => ?_⟩
 obtain ⟨ad, e, hc⟩ := hr.2.2 hn
 exact ⟨ad, e, fun j hj => (World.cell?_of_block (w := w) (hag _ (World.block_lt_of_cell? w _ (hc j hj)))).trans (hc j hj)⟩
theorem bytes_in (k : Nat) (A0 : Option Addr) (c0 : Nat) (l0 zs : List Int) (w : World) (hr0 : Kd.C (Kd.int .u32) w A0 l0.length l0) (hc0 : l0.length ≤ c0) (hz : whole_words_trim.f k l0 = some zs) (hlen : zs.length ≤ 100000) :
  CallsIn Fence.wide 3 Try.prog 72 #[.slice A0 l0.length c0] w fun e w' => ∃ v0_ : Value, e = .returned (v0_) ∧ Kd.R (Kd.int .u8) 5 w' w.heap.size (fun _ => True) v0_ (strip (flat (upto (fromLast zs) zs.length))) ∧ Below w.heap.size w w' := by
 have HR := Aside0.mk hr0
 have HZ := Aside0.mk hz
 clear hr0 hz
 obtain ⟨i0, hi, hz0, hz1, hz2⟩ := info_parts info5
 refine callsIn_of_wp_marks Try.func72 rfl trivial ?_ rfl
 simp only [Try.ntmps72, List.size_toArray, List.length_cons, List.length_nil, Nat.reduceAdd, Nat.reduceSub, Array.replicate_succ, Array.replicate_zero, List.push_toArray, List.append_toArray, List.nil_append, List.cons_append]
 gi_wp2_with fail
 refine ⟨trivial, callsIn_wide.2 ((whole_words_trim.calls k (fun b => b < w.heap.size) A0 c0 l0 zs _ ?hs HZ.out).mono ?_)⟩
 case hs => exact ⟨A0, c0, rfl, hc0, fun W' hag => C_agree HR.out (fun b p => (hag b p (by simp; omega)).trans (Below.heap_alloc _ _ _ p))⟩
 rintro e i ⟨v, rfl, ⟨A, c, rfl, hcc, hF⟩, hb1⟩
 gi_wp2_with fail
 refine ⟨trivial, (backward_in Fence.wide 2 trivial rfl A zs.length c i).mono ?_⟩
 rintro e W0 ⟨rfl, hW0⟩
 have hs0 : W0.heap.size = i.heap.size + 1 := by rw [hW0]; simp
 have hg1 : w.heap.size < i.heap.size := by have := hb1.size; simp at this; omega
 have hcB : W0.cell? ⟨i.heap.size, 0, none⟩ = some (.slice A zs.length c) := by rw [hW0]; exact (blk_cell (blk_new i _) 0).trans rfl
 have bX : Boxed W0 w.heap.size 90 (.slice none 0 0) := by rw [hW0]; exact blk_alloc (blk_below (blk_new w _) hb1) _
 have hB0 : Below w.heap.size w W0 := by rw [hW0]; exact below_alloc (below_step (below_alloc (Below.refl _ _) _) hb1) _
 have hrd : ∀ W', (∀ b, b < W0.heap.size → b ≠ w.heap.size → W'.heap[b]? = W0.heap[b]?) → ReadsInt W' .u32 A zs.length zs := fun W' hag =>
  Kd.reads_of_C (enc := Value.int .u32) (d := (0 : Int)) (h1 := fun _ => rfl) (hF W' (fun b hok hlt => by
   rw [hag b (by omega) (by rcases hok with h | h <;> first | omega | (simp at h; omega)), hW0]
   exact Below.heap_alloc _ _ _ hlt))
 clear hW0 hF hb1
 gi_wp2_with fail
 refine wpIn_rangeFunc_ownG rfl (by omega) (gf := 81) (lb := #[.pointer (some ⟨i.heap.size, 0, none⟩)]) rfl trivial (enters_of Try.func81 (by kernel_rfl) rfl)
  (back_stops Fence.wide 2 trivial rfl (by omega) i.heap.size w.heap.size A c zs (by omega) W0 (by omega) (by omega) hcB hrd) (fun h k => KpB.trans h k) (KpB.put (Nat.le_refl _)) (Below.refl _ _) (fun _ => rfl)
  (fun pre W => (∃ v, Boxed W w.heap.size 90 v ∧ W.ownsRow W0.heap.size 5 1 v (flat pre).length (nums .u8 (flat pre)) ∧ True) ∧ Below w.heap.size W0 W)
  (fun _ _ _ => False)
  (OwnFrom.and (Own.from (holdsRow_own W0.heap.size w.heap.size 90 5 1 (fun pre => (flat pre).length) (fun pre => nums .u8 (flat pre)) (fun _ _ => True)) _) (ownFrom_below (by omega) (by omega)))
  (fun _ _ _ _ _ hs _ _ => hs)
  ⟨⟨_, bX, World.ownsRow_nil _ _ _ _, trivial⟩, Below.refl _ _⟩
  (fun x => { tmps := #[.slice A0 l0.length c0, undef, .slice none 0 0, .pointer (some ⟨w.heap.size, 0, none⟩), undef, .int .u32 x.2, undef, .slice A0 l0.length c0, .slice A zs.length c, .func (.func 81) #[] #[.pointer (some ⟨i.heap.size, 0, none⟩)], .int .i64 x.1, .int .u32 x.2, undef, undef, undef, undef, undef, undef, undef, undef, undef, undef, undef, undef, undef, undef, undef, undef, undef, undef, undef, undef, undef, undef, undef, undef, undef, undef, undef, undef], defers := [] }) ?assign ?body ?done ?stop
 case assign =>
  intro l x W K hK
  gi_wp2
  exact hK
 case body =>
  rintro l pre x W ⟨⟨v, hv, hrow, _⟩, hB⟩ hlt
  have hc := hv.cell
  gi_wp2_with fail
  refine wpIn_region_two (by kernel_rfl) (by kernel_rfl) (by kernel_rfl) (by kernel_rfl) (by kernel_rfl) (by kernel_rfl) (by kernel_rfl) ?_ ?_
  all_goals
   obtain ⟨Wd, hWd⟩ : ∃ Wd, Wd = (W.alloc (.cells (nums .u8 (four x.2)).toArray 129)).drew := ⟨_, rfl⟩
   rw [show (W.alloc (.cells #[.int .u8 (x.2 / 16777216 % 256), .int .u8 (x.2 / 65536 % 256), .int .u8 (x.2 / 256 % 256), .int .u8 (x.2 % 256)] 129)).drew = Wd from hWd.symm]
   have bH : Wd.heap[W.heap.size]? = some (.cells (nums .u8 (four x.2)).toArray 129) := by rw [hWd]; exact blk_new W _
   have bV : Boxed Wd w.heap.size 90 v := by rw [hWd]; exact hv.alloc _
   have hrow' : Wd.ownsRow W0.heap.size 5 1 v (flat pre).length (nums .u8 (flat pre)) := by rw [hWd]; exact (hrow.alloc _).drew
   have hgr : ∀ {n : World} {row : Option Nat}, Wd.grownBy n row → (W.alloc (.cells (nums .u8 (four x.2)).toArray 129)).grownBy n row := fun h => by rw [hWd] at h; exact ⟨h.os, h.tape, h.output, h.size, h.block⟩
   have hsz : Wd.heap.size = W.heap.size + 1 := by rw [hWd]; simp
   have hc1 := bV.cell
   have hcf := bV.frozen
   have hle : W0.heap.size ≤ Wd.heap.size := by have := hB.size; omega
   have hfl : (flat pre).length ≤ 400000 := by rw [flat_length]; omega
   have HWd := Aside0.mk hWd
   clear hWd hc
   gi_wp2_with (gi_at_builtin; refine wpListIn_append_own _ rfl _ _ 90 rfl W0.heap.size 5 i0 (.int .u8 0) 1 1 Try.underlying90 hi hz0 hz1 hz2 rfl (by decide) _ _ _ rfl hrow' ⟨W.heap.size, 0, none⟩ 4 4 (nums .u8 (four x.2)) rfl rfl (World.news_of_block (fr := (0, 0)) bH) (by intro u hu; simp only [nums, List.mem_map] at hu; obtain ⟨_, _, rfl⟩ := hu; rfl) (by unfold maxLen; omega) (by omega) hle ?_; intro v' n hown' hgrow _; obtain ⟨g', cap', rfl, _, _⟩ := hown'.form (by omega); have hv1 : Boxed n w.heap.size 90 v := bV.kept hgrow (bV.not_row (by decide) hrow'); have hd1 := hv1.cell; have hd2 := hv1.frozen)
   have hvb := hgr hgrow
   obtain ⟨_, hv2, _, hk2, hb2⟩ := hv.appended (n₀ := w.heap.size) (by decide) (own_weaken hrow (by omega)) (by have := hB.size; omega) (Nat.le_refl _) (own_weaken hown' (by omega)) hvb
   refine ⟨hk2.from _, fun b hbn hbg => ?_, ⟨⟨_, hv2, ?_, trivial⟩, hB.trans hb2⟩⟩
   ·rw [Below.heap_setCell _ _ _ _ hbg, hvb.block b (by simp; have := hB.size; omega) (fun e => by have := own_base hrow b e.symm; omega)]
    exact Below.heap_alloc _ _ _ (by have := hB.size; omega)
   ·rw [flat_snoc, nums_append, List.length_append]
    exact hown'.kept (grownBy_setCell' _ _ _) (.inr (hv1.not_row (by decide) hown').symm)
 case done =>
  rintro D ys W hD rfl ⟨⟨v, hv, hrow, _⟩, hB⟩ hK
  have hll : (flat (upto (fromLast zs) zs.length)).length ≤ 400000 := by rw [flat_length, upto_length]; omega
  obtain ⟨fl, hfl⟩ : ∃ fl, fl = flat (upto (fromLast zs) zs.length) := ⟨_, rfl⟩
  rw [← hfl] at hrow hll
  have HFL := Aside0.mk hfl
  clear hfl
  obtain ⟨q, r, rfl, hr1⟩ := own_reads hrow
  have hc1 : fl.length ≤ r := (Kd.R_reads' (Kd.R_of_own (h1 := fun _ => rfl) (ok := fun _ => True) hrow (fun _ _ => trivial))).2.1
  have HRow := Aside0.mk hrow
  have HK := Aside0.mk hK
  have HV := Aside0.mk hv
  clear hrow hK hv hr1
  gi_wp2_with fail
  gi_loopg [] fl.length (fun kq wr => ∃ (j : Option Addr) (xs : List Int) (a : Nat), kq = xs.length ∧ Aside0 (Boxed wr w.heap.size 90 (.slice j xs.length a)) ∧ xs.length ≤ a ∧ xs.length ≤ 400000 ∧ Aside0 (∀ W', ReadsOf (Value.int .u8) (0 : Int) W' q fl.length fl → ReadsOf (Value.int .u8) (0 : Int) W' j xs.length xs) ∧ Aside0 (strip xs = strip fl) ∧ Aside0 (W.grownBy wr (some w.heap.size)))
  case atStart => exact ⟨q, fl, r, rfl, HV, hc1, hll, ⟨fun _ h => h⟩, ⟨rfl⟩, ⟨World.grownBy.refl _ _⟩⟩
  case round =>
   obtain ⟨j, xs, a, rfl, HV2, hc2, hx2, HRd, HS, HG⟩ := hrel
   have hrW : ReadsOf (Value.int .u8) (0 : Int) wr j xs.length xs := HRd.out wr (by
    obtain ⟨A', c', e', hr'⟩ := own_reads (HRow.out.kept HG.out (.inr (HV.out.not_row (by decide) HRow.out).symm))
    injection e' with t _ _
    subst t
    exact hr')
   have hbc := HV2.out.cell
   have hbf := HV2.out.frozen
   cases xs with
   | nil =>
    gi_wp2_with fail
    have hle : ([] : List Int).length ≤ 140737488355328 := by decide
    refine ⟨trivial, callsIn_wide.2 ((slices_Clone_byte_byte.calls j a [] [] wr (Kd.C_of_reads (h1 := fun _ => rfl) hrW) hc2 (by unfold slices_Clone_byte_byte.f; rw [if_pos hle])).mono ?_)⟩
    rintro e m ⟨o, rfl, hv9, hb9⟩
    gi_wp2_with fail
    have hDlt := (Array.getElem?_eq_some_iff.1 HK.out).1
    have hg1 := HG.out.size
    have hK9 : m.heap[D]? = some (.deferred (some [])) := (hb9.block D (by omega)).trans ((HG.out.block D hDlt (by intro e; injection e; omega)).trans HK.out)
    refine ⟨by simp, .inl ⟨_, _, rfl, run_takeDeferred hK9, ?_⟩⟩
    refine ⟨_, results_tmp rfl _ _ _, o, rfl, ?_, ?_⟩
    ·rw [← HFL.out, ← HS.out, show strip ([] : List Int) = [] from rfl]
     exact Kd.R_lower (Kd.R_mono (Kd.R_step (Kd.R_bound hv9) (fun b hk hlt => World.putObj_heap_other (by have := hk.2.1; omega))) (fun _ _ => trivial)) (by have := hB.size; have := hB0.size; omega)
    ·exact (((hB0.trans hB).grown HG.out (by have := hB.size; omega) (fun b e => by injection e; omega)).trans (hb9.mono (by have := hB.size; omega))).trans (belowK_b (w := w) (Nat.le_refl _) m D _ _ (by omega) hK9 rfl rfl)
   | cons x rest =>
    obtain ⟨ad, rfl, hcell0⟩ := ReadsOf.at_ hrW 0 (by omega) (by simp)
    have hcell : wr.cell? ad = some (.int .u8 x) := by simpa [Addr.add, rdOf] using hcell0
    clear hcell0
    by_cases hx : x = 0
    ·have HSX : strip (x :: rest) = strip rest := List.dropWhile_cons_of_pos (by simpa using hx)
     have HX := Aside0.mk HSX
     subst hx
     obtain ⟨i5, hi5, _, hz5, _⟩ := info_parts info5
     obtain ⟨s, hcut, hA3, hC3⟩ := print_drop_of (P := Try.prog) (Value.int .u8) (0 : Int) 90 5 .i64 Try.underlying90 hi5 hz5 (some ad) a (0 :: rest) 1 (by omega) (by simp; omega) hc2
     have hcut2 : ∀ W : World, (Instr.slice 90 (.slice (some ad) (rest.length + 1) a) (some (.int .i64 1)) none none).run Try.prog W = .ok (.slice s rest.length (a - 1)) W := fun W => by simpa using hcut W
     have HA3 := Aside0.mk hA3
     simp only [List.length_cons] at hc2 hx2
     clear hcut hA3 hC3 HSX hi5 hz5
     gi_wp2_with fail
     gi_roundg rest.length
     case rel => exact ⟨s, rest, a - 1, rfl, ⟨HV2.out.set _⟩, by omega, by omega, ⟨fun W' h => by simpa using HA3.out W' (HRd.out W' h)⟩, ⟨HX.out.symm.trans HS.out⟩, ⟨World.grownBy.trans HG.out (grownBy_setCell' _ _ _)⟩⟩
     case measure => simp
    ·have hxb : (x == 0) = false := by simpa using hx
     have HSX : strip (x :: rest) = x :: rest := List.dropWhile_cons_of_neg (by simpa using hx)
     have HX := Aside0.mk HSX
     have hlf : (x :: rest).length ≤ 140737488355328 := by omega
     have HL := Aside0.mk hlf
     clear HSX hx hlf
     gi_wp2_with fail
     have hle := HL.out
     refine ⟨trivial, callsIn_wide.2 ((slices_Clone_byte_byte.calls (some ad) a (x :: rest) (x :: rest) wr (Kd.C_of_reads (h1 := fun _ => rfl) hrW) hc2 (by unfold slices_Clone_byte_byte.f; rw [if_pos hle])).mono ?_)⟩
     rintro e m ⟨o, rfl, hv9, hb9⟩
     gi_wp2_with fail
     have hDlt := (Array.getElem?_eq_some_iff.1 HK.out).1
     have hg1 := HG.out.size
     have hK9 : m.heap[D]? = some (.deferred (some [])) := (hb9.block D (by omega)).trans ((HG.out.block D hDlt (by intro e; injection e; omega)).trans HK.out)
     refine ⟨by simp, .inl ⟨_, _, rfl, run_takeDeferred hK9, ?_⟩⟩
     refine ⟨_, results_tmp rfl _ _ _, o, rfl, ?_, ?_⟩
     ·rw [← HFL.out, ← HS.out, HX.out]
      exact Kd.R_lower (Kd.R_mono (Kd.R_step (Kd.R_bound hv9) (fun b hk hlt => World.putObj_heap_other (by have := hk.2.1; omega))) (fun _ _ => trivial)) (by have := hB.size; have := hB0.size; omega)
     ·exact (((hB0.trans hB).grown HG.out (by have := hB.size; omega) (fun b e => by injection e; omega)).trans (hb9.mono (by have := hB.size; omega))).trans (belowK_b (w := w) (Nat.le_refl _) m D _ _ (by omega) hK9 rfl rfl)
 case stop =>
  rintro D c pre W _ _ h _
  exact h.elim
def whole_words_bytes.f (k : Nat) (l0 : List Int) : Option (List Int) := (whole_words_trim.f k l0).bind fun zs => if zs.length ≤ 100000 then some (strip (flat (upto (fromLast zs) zs.length))) else none
theorem whole_words_bytes.mono : ∀ a0 k, LeO (whole_words_bytes.f k a0) (whole_words_bytes.f (k + 1) a0) := by
 intro a0 k
 unfold whole_words_bytes.f
 exact LeO.bind (whole_words_trim.mono _ _) (fun _ => LeO.refl _)
theorem whole_words_bytes.calls (k : Nat) (A0 : Option Addr) (c0 : Nat) (l0 : List Int) (r : List Int) (w : World) (hr0 : Kd.C (Kd.int .u32) w A0 l0.length l0) (hc0 : l0.length ≤ c0) (h : whole_words_bytes.f k l0 = some r) :
  Calls Try.prog 72 #[.slice A0 l0.length c0] w fun e w' => ∃ v0_ : Value, e = .returned (v0_) ∧ Kd.R (Kd.int .u8) 5 w' w.heap.size (fun _ => True) v0_ r ∧ Below w.heap.size w w' := by
 unfold whole_words_bytes.f at h
 obtain ⟨zs, hz, h⟩ := Option.bind_eq_some_iff.1 h
 split at h
 case isFalse => cases h
 case isTrue hl =>
 obtain rfl := Option.some.inj h
 exact callsIn_wide.1 (bytes_in k A0 c0 l0 zs w hr0 hc0 hz hl)
end Go.Proofs.Ytpodpmjlkbbkoaa.P
