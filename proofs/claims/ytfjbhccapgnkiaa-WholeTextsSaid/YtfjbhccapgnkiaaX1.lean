import Derived.Test.YtfjbhccapgnkiaaA1
import Derived.Lib.OthersKept
import Derived.Lib.TrimU
import Derived.Deep.LoopGhost
namespace Go.Proofs.Ytfjbhccapgnkiaa.P
open Go.RowKit Go.Proofs.YtfjbhccapgnkiaaW.PrintWords Go.Proofs.YtfjbhccapgnkiaaW.PrintLast Go.Proofs.YtfjbhccapgnkiaaW.PrintMore
attribute [local go_sem] max2_int min2_int max_two min_two max_three min_three max_four min_four
set_option linter.unusedVariables false
set_option linter.unusedSimpArgs false

/-! ### strings.IndexFunc with Read's own test -/
/-- Is the rune at this place no digit? -/
def oddR (r : Nat) : Bool := decide ((r : Int) < 48) || decide ((r : Int) > 57)
/-- Where the first rune that is no digit begins, from a place on. -/
def idxF (s : ByteArray) : Nat → Nat → Int
  | 0, _ => -1
  | f + 1, pos => if pos < s.size then (if oddR (Utf8.decode s pos).1 = true then (pos : Int) else idxF s f (pos + (Utf8.decode s pos).2)) else -1
theorem idxF_end (s : ByteArray) (f pos : Nat) (h : ¬ pos < s.size) : idxF s f pos = -1 := by cases f <;> simp [idxF, h]
set_option maxHeartbeats 2000000 in
set_option maxRecDepth 100000 in
theorem odd_calls (r : Nat) (w : World) : Calls Try.prog 90 #[.int .i32 (r : Int)] w fun e w' => e = .returned (.bool (oddR r)) ∧ Drawn0 w w' := by
  by_cases h : (r : Int) < 48
  · have e : oddR r = true := by simp [oddR, h]
    rw [e]
    go_enter Try.func90, Try.ntmps90
    go_wp2
    go_ret
    exact ⟨rfl, Drawn0.refl _⟩
  · have e : oddR r = decide ((57 : Int) < (r : Int)) := by simp only [oddR, h, decide_false, Bool.false_or]
    rw [e]
    go_enter Try.func90, Try.ntmps90
    go_wp2
    go_ret
    exact ⟨rfl, Drawn0.refl _⟩
set_option maxHeartbeats 2000000 in
set_option maxRecDepth 100000 in
theorem strings_indexFunc.calls (s : ByteArray) (w : World) : Calls Try.prog 117 #[.string s, .func (.func 90) #[] #[], .bool true] w fun e w' => e = .returned (.int .i64 (idxF s s.size 0)) ∧ Below w.heap.size w w' := by
  go_enter Try.func117, Try.ntmps117
  go_wp2
  go_loopg [] s.size (fun gf wx => ∃ pos : Nat, wx.heap[w.heap.size]? = some (.stringIter s pos) ∧ Below w.heap.size w wx ∧ idxF s gf pos = idxF s s.size 0 ∧ s.size ≤ pos + gf)
  case atStart => exact ⟨0, World.iter_heap w s 0, (Below.refl _ w).alloc (Nat.le_refl _) _, rfl, by omega⟩
  case round =>
    obtain ⟨pos, hit, hbw, hleft, hfu⟩ := hrel
    by_cases hps : pos < s.size
    · obtain ⟨g', rfl⟩ : ∃ g', gk = g' + 1 := ⟨gk - 1, by omega⟩
      have hnx : ∀ ty, (Instr.next (.pointer (some ⟨w.heap.size, 0, none⟩)) true ty).run Try.prog wr = _ := fun ty => Lib.run_next_any_at wr w.heap.size s pos ty hit hps
      have hwd := Lib.width_pos s pos
      obtain ⟨R, hR⟩ : ∃ R, (Utf8.decode s pos).1 = R := ⟨_, rfl⟩
      obtain ⟨K, hK⟩ : ∃ K, (Utf8.decode s pos).2 = K := ⟨_, rfl⟩
      simp only [idxF, hps, if_true, hR, hK] at hleft
      rw [hR, hK] at hnx
      rw [hK] at hwd
      have hit2 := Lib.iterAt_heap wr w.heap.size s pos (pos + K) hit
      have hbw2 := Lib.below_iterAt hbw (k := w.heap.size) (Nat.le_refl _) s (pos + K)
      obtain ⟨W, hWd⟩ : ∃ W, wr.iterAt w.heap.size s (pos + K) = W := ⟨_, rfl⟩
      rw [hWd] at hnx hit2 hbw2
      have cS := odd_calls R W
      cases hsp : oddR R <;> rw [hsp] at cS hleft <;> simp only [if_true, Bool.false_eq_true, if_false] at hleft
      · go_wp2_with (go_at_call 90; refine cS.mono ?_; rintro e W' ⟨rfl, ⟨q, rfl⟩⟩)
        go_roundg g'
        case measure => omega
        case rel => exact ⟨pos + K, hit2, (by apply pw_below_drewN; exact hbw2), hleft, by omega⟩
      · go_wp2_with (go_at_call 90; refine cS.mono ?_; rintro e W' ⟨rfl, ⟨q, rfl⟩⟩)
        go_ret
        exact ⟨by rw [← hleft] <;> rfl, (by apply pw_below_drewN; exact hbw2)⟩
    · have hnx : ∀ ty, (Instr.next (.pointer (some ⟨w.heap.size, 0, none⟩)) true ty).run Try.prog wr = _ := fun ty => Lib.run_next_end_at wr w.heap.size s pos ty hit hps
      rw [idxF_end s gk pos hps] at hleft
      go_wp2
      go_ret
      exact ⟨by rw [← hleft] <;> rfl, hbw⟩
def strings_IndexFunc.f (s : ByteArray) : Option Int := some (idxF s s.size 0)
set_option maxHeartbeats 2000000 in
set_option maxRecDepth 100000 in
theorem strings_IndexFunc.calls (s : ByteArray) (r : Int) (w : World) (h : strings_IndexFunc.f s = some r) : Calls Try.prog 91 #[.string s, .func (.func 90) #[] #[]] w fun e w' => e = .returned (.int .i64 r) ∧ Below w.heap.size w w' := by
  have e : idxF s s.size 0 = r := Option.some.inj h
  subst e
  obtain ⟨I, hI⟩ : ∃ I, idxF s s.size 0 = I := ⟨_, rfl⟩
  have cI := strings_indexFunc.calls s w
  rw [hI] at cI ⊢
  go_enter Try.func91, Try.ntmps91
  go_wp2_with (go_at_call 117; refine cI.mono ?_; rintro e w' ⟨rfl, hb⟩)
  go_ret
  exact ⟨rfl, hb⟩

end Go.Proofs.Ytfjbhccapgnkiaa.P
