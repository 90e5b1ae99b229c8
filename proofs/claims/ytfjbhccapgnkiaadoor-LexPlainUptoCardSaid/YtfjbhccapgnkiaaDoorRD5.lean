
import Derived.Test.YtfjbhccapgnkiaaDoorRD1
import Derived.WalkSpells
import Derived.Outline
import Derived.StillTailTactics
import Derived.LoopTactic
import Derived.RangeFuncBox
import Derived.RangeFuncLeaves
import Derived.Shelf.Abstract
import Derived.OwnWalkIn
import Derived.TacticsInMore
import Derived.LoopNIn
import Derived.LoopIn
namespace Go.Proofs.YtfjbhccapgnkiaaDoor.P
open Go.RowKit Go.Proofs.YtfjbhccapgnkiaaDoorW.PrintWords Go.Proofs.YtfjbhccapgnkiaaDoorW.PrintLast Go.Proofs.YtfjbhccapgnkiaaDoorW.PrintMore
attribute [local go_sem] max2_int min2_int max_two min_two max_three min_three max_four min_four
set_option linter.unusedVariables false
set_option linter.unusedSimpArgs false

/-! ### slices.Clone -/
def slices_Clone_byte_byte.f (l0 : List Int) : Option (List Int) := if l0.length ≤ 140737488355328 then some l0 else none
theorem slices_Clone_byte_byte.calls (A0 : Option Addr) (c0 : Nat) (l0 : List Int) (r : List Int) (w : World) (hr0 : Kd.C (Kd.int .u8) w A0 l0.length l0) (hc0 : l0.length ≤ c0) (h : slices_Clone_byte_byte.f l0 = some r) :
    Calls Tryd.prog 82 #[.slice A0 l0.length c0] w fun e w' => ∃ v0_ : Value, e = .returned (v0_) ∧ Kd.R (Kd.int .u8) 5 w' w.heap.size (fun _ => True) v0_ r ∧ Below w.heap.size w w' := by
  unfold slices_Clone_byte_byte.f at h
  split at h
  case isFalse => cases h
  case isTrue hlen =>
  obtain rfl := Option.some.inj h
  clear h
  cases A0 with
  | none =>
    have h0 : l0.length = 0 := by
      rcases Nat.eq_zero_or_pos l0.length with h0 | h0
      · exact h0
      · obtain ⟨ad, e, _⟩ := Kd.at_int hr0 0 (by omega) (by omega)
        cases e
    obtain rfl := List.eq_nil_of_length_eq_zero h0
    have heq := fun (w : World) (a : Option Addr) (n c : Nat) => Lib.run_eql_slice_nil (P := Tryd.prog) w 32 5 a n c 0 0 Tryd.underlying32
    go_enter Tryd.func82, Tryd.ntmps82
    go_wp2
    go_ret
    exact ⟨_, rfl, Kd.R_nil _ _ _ _ _, Below.refl _ _⟩
  | some ad =>
    have heq := fun (w : World) (a : Option Addr) (n c : Nat) => Lib.run_eql_slice_nil (P := Tryd.prog) w 32 5 a n c 0 0 Tryd.underlying32
    have HR := Aside0.mk hr0
    clear hr0
    go_enter Tryd.func82, Tryd.ntmps82
    go_wp2_with (first | ((with_reducible refine gate_dst (N := 7) rfl ?_); refine Kd.R_append_row (w0 := w) (Value.int .u8) (0 : Int) (h1 := fun _ => rfl) w.heap.size rfl (.tmp 5) (.tmp 6) 32 5 (.int .u8 0) 1 rfl Tryd.underlying32 info5 rfl (by decide) (.slice (some ⟨w.heap.size, 0, none⟩) 0 0) [] l0 (some ad) l0.length c0 (fun _ => True) rfl rfl (fun _ _ => trivial) ?ho ?hr ?hb ?hs ?hl ?_; (case ho => exact Kd.R_of_own (own_lit w w.heap.size 5 .u8 [] (Nat.le_refl _) (by decide)) (fun _ _ => trivial)); (case hr => exact Kd.C_below HR.out (below_alloc (Below.refl _ _) _)); (case hb => exact below_alloc (Below.refl _ _) _); (case hs => simp); (case hl => simpa using hlen); intro v1 w1 hv hb1 _ _; have HV := Aside0.mk hv; have HB := Aside0.mk hb1; clear hv hb1))
    go_ret
    exact ⟨_, rfl, HV.out, HB.out⟩

end Go.Proofs.YtfjbhccapgnkiaaDoor.P
namespace Go.Proofs.YtfjbhccapgnkiaaDoor.P
open Go.RowKit Go.Proofs.YtfjbhccapgnkiaaDoorW.PrintWords Go.Proofs.YtfjbhccapgnkiaaDoorW.PrintLast Go.Proofs.YtfjbhccapgnkiaaDoorW.PrintMore
attribute [local go_sem] max2_int min2_int max_two min_two max_three min_three max_four min_four
set_option linter.unusedVariables false
set_option linter.unusedSimpArgs false

/-! ### slices.Backward and (words).bytes -/
open Go.Shelf
attribute [local go_sem] Oper.semAt_some
/-- What has come when k rounds are over. -/
def upto {α : Type} (f : Nat → α) (k : Nat) : List α := (List.range k).map f
theorem upto_succ {α : Type} (f : Nat → α) (k : Nat) : upto f (k + 1) = upto f k ++ [f k] := by simp [upto, List.range_succ]
theorem upto_length {α : Type} (f : Nat → α) (k : Nat) : (upto f k).length = k := by simp [upto]
theorem add_block (ad : Addr) (j : Nat) : (ad.add j).block = ad.block := by unfold Addr.add; split <;> rfl
/-- From the last one on. -/
def fromLast (zs : List Int) (j : Nat) : Int × Int := ((zs.length : Int) - 1 - j, rd zs ((zs.length : Int) - 1 - j))
set_option maxRecDepth 100000 in
set_option maxHeartbeats 2000000 in
theorem back_in (F : Fence) (n : Nat) (hf : F.fn 84) (hro : F.round = none) (hn : 1 ≤ n) (l Bs : Nat) (ad : Addr) (cap : Nat) (zs : List Int) (hreach : zs.length ≤ 9223372036854775807) (Kp : World → World → Prop) (hKr : ∀ W, Kp W W) (hKt : ∀ {A B C : World}, Kp A B → Kp B C → Kp A C) (J Jx : List (Int × Int) → World → Prop)
    (hY : ∀ pre x W, J pre W → pre.length < zs.length → YieldAt F (n - 1) Tryd.prog l #[.int .i64 x.1, .int .u32 x.2] W fun e W' =>
      (e = .returned (.bool true) ∧ J (pre ++ [x]) W' ∧ Kp W W') ∨ (e = .returned (.bool false) ∧ Jx (pre ++ [x]) W'))
    (W : World) (hBs : ∀ W', Kp W W' → W'.cell? ⟨Bs, 0, none⟩ = some (.slice (some ad) zs.length cap)) (hc : ∀ W', Kp W W' → ∀ j, j < zs.length → W'.cell? (ad.add j) = some (.int .u32 (zs.getD j 0))) (h0 : J [] W) :
    CallsIn F n Tryd.prog 84 #[.func (.yield l) #[] #[], .pointer (some ⟨Bs, 0, none⟩)] W fun e W' => (∃ v, e = .returned v) ∧
      ((∃ ys, ys = upto (fromLast zs) zs.length ∧ J ys W') ∨ (∃ pre, (∃ k, k ≤ zs.length ∧ pre = upto (fromLast zs) k) ∧ Jx pre W')) := by
  have HBs := Aside0.mk hBs
  have HC := Aside0.mk hc
  have hBs0 := hBs W (hKr W)
  have HKt := Aside0.mk @hKt
  have HKr := Aside0.mk (hKr W)
  clear hBs hc hKt hKr
  refine callsIn_of_wp Tryd.func84 rfl hf ?_ hro
  simp only [Tryd.ntmps84, List.size_toArray, List.length_cons, List.length_nil, Nat.reduceAdd, Nat.reduceSub, Array.replicate_succ, Array.replicate_zero, List.push_toArray, List.append_toArray, List.nil_append, List.cons_append]
  gi_wp2
  gi_loopw [3] (fun i wr => ∃ k : Nat, k ≤ zs.length ∧ i = .int .i64 ((zs.length : Int) - 1 - k) ∧ J (upto (fromLast zs) k) wr ∧ Aside0 (Kp W wr))
    (fun i _ => (intOf i + 1).toNat)
  case atStart => exact ⟨0, Nat.zero_le _, by simp, h0, HKr⟩
  case round =>
    obtain ⟨k, hk, rfl, hJs, hnx⟩ := hrel
    by_cases hlt : k < zs.length
    · have hcx : wr.cell? (ad.add (zs.length - 1 - k)) = some (.int .u32 (fromLast zs k).2) := by
        rw [HC.out wr hnx.out _ (by omega)]
        unfold fromLast rd
        rw [show ((zs.length : Int) - 1 - k).toNat = zs.length - 1 - k by omega]
      have hbx : wr.cell? ⟨Bs, 0, none⟩ = some (.slice (some ad) zs.length cap) := HBs.out wr hnx.out
      obtain ⟨fn, tmps, assign, body, hy, hR⟩ := hY _ (fromLast zs k) wr hJs (by rw [upto_length]; exact hlt)
      have hx1 : (fromLast zs k).1 = (zs.length : Int) - 1 - k := rfl
      rw [hx1] at hy
      clear hx1
      gi_wp2
      refine hR.mono ?_
      rintro e W3 (⟨rfl, hJ3, hk3⟩ | ⟨rfl, hJx3⟩)
      · gi_wp2
        go_roundw
        case rel => exact ⟨k + 1, by omega, by go_num, by rw [upto_succ]; exact hJ3, ⟨HKt.out hnx.out hk3⟩⟩
        case measure => simp [intOf]; omega
      · gi_wp2
        refine bodyPost_ret (results_none rfl _ _ _) rfl ?_
        exact ⟨⟨_, rfl⟩, .inr ⟨_, ⟨k + 1, by omega, (upto_succ _ _).symm⟩, hJx3⟩⟩
    · obtain rfl : k = zs.length := by omega
      gi_wp2
      go_end0
      exact ⟨⟨_, rfl⟩, .inl ⟨_, rfl, hJs⟩⟩

set_option maxRecDepth 100000 in
set_option maxHeartbeats 1000000 in
theorem back_nil_in (F : Fence) (n : Nat) (hf : F.fn 84) (hro : F.round = none) (l Bs c : Nat) (J : List (Int × Int) → World → Prop) (W : World) (hBs : W.cell? ⟨Bs, 0, none⟩ = some (.slice none 0 c)) (h0 : J [] W) :
    CallsIn F n Tryd.prog 84 #[.func (.yield l) #[] #[], .pointer (some ⟨Bs, 0, none⟩)] W fun e W' => (∃ v, e = .returned v) ∧ J [] W' := by
  refine callsIn_of_wp Tryd.func84 rfl hf ?_ hro
  simp only [Tryd.ntmps84, List.size_toArray, List.length_cons, List.length_nil, Nat.reduceAdd, Nat.reduceSub, Array.replicate_succ, Array.replicate_zero, List.push_toArray, List.append_toArray, List.nil_append, List.cons_append]
  gi_wp2
  gi_loopw [3] (fun i wr => i = .int .i64 (-1) ∧ J [] wr) (fun _ _ => 0)
  case atStart => exact ⟨rfl, h0⟩
  case round =>
    obtain ⟨rfl, hJs⟩ := hrel
    gi_wp2
    go_end0
    exact ⟨⟨_, rfl⟩, hJs⟩

set_option maxHeartbeats 1000000 in
theorem backward_in (F : Fence) (n : Nat) (h5 : F.fn 81) (hro : F.round = none) (a : Option Addr) (len cap : Nat) (w : World) :
    CallsIn F n Tryd.prog 81 #[.slice a len cap] w fun e w' => e = .returned (.func (.func 84) #[] #[.pointer (some ⟨w.heap.size, 0, none⟩)]) ∧ w' = w.alloc (.cells #[.slice a len cap] 65) := by
  refine callsIn_of_wp Tryd.func81 rfl h5 ?_ hro
  simp only [Tryd.ntmps81, List.size_toArray, List.length_cons, List.length_nil, Nat.reduceAdd, Nat.reduceSub, Array.replicate_succ, Array.replicate_zero, List.push_toArray, List.append_toArray, List.nil_append, List.cons_append]
  gi_wp2
  go_ret
  exact ⟨rfl, rfl⟩

/-- All but the block g lies, below n₁, as it lay. -/
def KpB (g n₁ : Nat) (W W' : World) : Prop := ∀ k, k < n₁ → k ≠ g → W'.heap[k]? = W.heap[k]?
theorem KpB.refl (g n₁ : Nat) (W : World) : KpB g n₁ W W := fun _ _ _ => rfl
theorem KpB.trans {g n₁ : Nat} {A B C : World} (h : KpB g n₁ A B) (k : KpB g n₁ B C) : KpB g n₁ A C := fun i hi hg => (k i hi hg).trans (h i hi hg)
theorem KpB.put {g n₁ : Nat} {w : World} (hn : n₁ ≤ w.heap.size) : ∀ (W : World) (l : Nat) (o o' : Obj), w.heap.size ≤ l → W.heap[l]? = some o → o.isCells = false → o.isWalk = false → KpB g n₁ W (W.putObj l o') :=
  fun W l o o' hl _ _ _ k hk _ => World.putObj_heap_other (by omega)
theorem back_stops (F : Fence) (n : Nat) (h7 : F.fn 84) (hro : F.round = none) (hn : 1 ≤ n) (Bs g : Nat) (A : Option Addr) (cap : Nat) (zs : List Int) (hreach : zs.length ≤ 9223372036854775807) (w : World) (hBs : Bs < w.heap.size) (hBg : Bs ≠ g)
    (hc : w.cell? ⟨Bs, 0, none⟩ = some (.slice A zs.length cap)) (hI : ∀ W', (∀ k, k < w.heap.size → k ≠ g → W'.heap[k]? = w.heap[k]?) → ReadsInt W' .u32 A zs.length zs) :
    SeqStopsK F n Tryd.prog 84 #[.pointer (some ⟨Bs, 0, none⟩)] (fun x : Int × Int => #[Value.int .i64 x.1, Value.int .u32 x.2]) (KpB g w.heap.size) (fun ys => ys = upto (fromLast zs) zs.length)
      (fun pre => ∃ k, k ≤ zs.length ∧ pre = upto (fromLast zs) k) zs.length w := fun l J Jx W hW _ _ hY h0 => by
  have hag : ∀ W', KpB g w.heap.size W W' → ∀ k, k < w.heap.size → k ≠ g → W'.heap[k]? = w.heap[k]? := fun W' hk k h1 h2 => (hk k h1 h2).trans (hW.block k h1)
  have hcB : ∀ W', KpB g w.heap.size W W' → W'.cell? ⟨Bs, 0, none⟩ = some (.slice A zs.length cap) := fun W' hk => (World.cell?_of_block (w := w) (hag W' hk Bs hBs hBg)).trans hc
  cases A with
  | none =>
    have hz : zs.length = 0 := by
      rcases Nat.eq_zero_or_pos zs.length with h | h
      · exact h
      · obtain ⟨ad, e, _⟩ := (hI w (fun _ _ _ => rfl)).2.2 h; cases e
    obtain rfl := List.eq_nil_of_length_eq_zero hz
    exact (back_nil_in F n h7 hro l Bs cap J W (hcB W (KpB.refl _ _ _)) h0).mono fun e W' ⟨he, hj⟩ => ⟨he, .inl ⟨_, rfl, hj⟩⟩
  | some ad =>
    refine back_in F n h7 hro hn l Bs ad cap zs hreach (KpB g w.heap.size) (KpB.refl _ _) (fun h k => h.trans k) J Jx hY W hcB (fun W' hk j hj => ?_) h0
    obtain ⟨ad', e, hcell⟩ := (hI W' (hag W' hk)).2.2 (by omega)
    cases e
    exact hcell j hj

end Go.Proofs.YtfjbhccapgnkiaaDoor.P
