import Derived.Test.YtfjbhccapgnkiaaN0
import Derived.Test.YtfjbhccapgnkiaaV0
import Derived.Test.YtfjbhccapgnkiaaN6
import Derived.Test.YtfjbhccapgnkiaaA3
import Derived.Test.YtfjbhccapgnkiaaE2
import Derived.LoopTactic
import Derived.RangeFuncRecord
namespace Go.Proofs.Ytfjbhccapgnkiaa.P
open Go.RowKit Go.Proofs.YtfjbhccapgnkiaaW.PrintWords Go.Proofs.YtfjbhccapgnkiaaW.PrintLast Go.Proofs.YtfjbhccapgnkiaaW.PrintMore
attribute [local go_sem] max2_int min2_int max_two min_two max_three min_three max_four min_four
set_option linter.unusedVariables false
set_option linter.unusedSimpArgs false

attribute [local go_sem] stC stF
/-! ### A float as eight bytes -/
/-- The k-th of a word's eight bytes, the highest first. -/
def be8k (n k : Nat) : Int := ((n / 256 ^ (7 - k) % 256 : Nat) : Int)
def be8 (n : Nat) : List Int := (List.range 8).map (be8k n)
theorem be8_take (n k : Nat) (h : k < 8) : (be8 n).take (k + 1) = (be8 n).take k ++ [be8k n k] := by
  rw [List.take_succ_eq_append_getElem (by simpa [be8] using h)]
  simp [be8]
theorem be8_len (n : Nat) : (be8 n).length = 8 := by simp [be8]
theorem be8_shift (b : Nat) (x : Int) (k : Nat) (hx : x = 7 - (k : Int)) (hk : k < 8) : (b : Int) / 2 ^ (8 * x).toNat % 256 = be8k b k := by
  have e1 : (8 * x).toNat = 8 * (7 - k) := by omega
  have e2 : (2 : Nat) ^ (8 * (7 - k)) = 256 ^ (7 - k) := by rw [Nat.pow_mul]
  rw [e1]
  unfold be8k
  rw [← e2, Int.natCast_emod, Int.natCast_ediv, Int.natCast_pow]
  rfl
set_option maxHeartbeats 8000000 in
set_option maxRecDepth 100000 in
theorem ref_eight.calls (b : Nat) (hb64 : b < 18446744073709551616) (P0_ : Nat → Prop) (v0 : Value) (l : List Int) (w0 w : World) (hB : Below w0.heap.size w0 w) (ho : Kd.R (Kd.int .u8) 5 w w0.heap.size P0_ v0 l) (hl : l.length ≤ 1000) :
    Calls Try.prog 103 #[v0, .float .f64 b] w fun e w' => ∃ v_ : Value, e = .returned v_ ∧ Kd.R (Kd.int .u8) 5 w' w0.heap.size (fun k_ => P0_ k_ ∨ w.heap.size ≤ k_) v_ (l ++ be8 b) ∧ Below w0.heap.size w0 w' := by
  have h1 := fun b w => f64bits_run b w
  have HB := Aside0.mk hB
  have HO := Aside0.mk (Kd.R_mono (ok' := fun k_ => P0_ k_ ∨ w.heap.size ≤ k_) ho (fun k hk => .inl hk))
  have HL := Aside0.mk hl
  clear hB ho hl
  go_enter Try.func103, Try.ntmps103
  go_wp2
  go_loopw [0, 6] (fun v i w' => ∃ (x : Int) (k : Nat), i = .int .i64 x ∧ Aside0 (x = 7 - (k : Int) ∧ k ≤ 8) ∧ Aside0 (Kd.R (Kd.int .u8) 5 w' w0.heap.size (fun k_ => P0_ k_ ∨ w.heap.size ≤ k_) v (l ++ (be8 b).take k)) ∧ Aside0 (Below w0.heap.size w0 w') ∧ Aside0 (w.heap.size ≤ w'.heap.size)) (fun _ i _ => (intOf i + 1).toNat)
  case atStart => exact ⟨7, 0, rfl, ⟨by omega⟩, ⟨by simpa using HO.out⟩, HB, ⟨Nat.le_refl _⟩⟩
  case round =>
    obtain ⟨x, k, rfl, HK, HR, HBr, HG⟩ := hrel
    by_cases hlt : k < 8
    · have hge : decide (0 ≤ x) = true := decide_eq_true (by have := HK.out; omega)
      have b1 : 0 ≤ x := by have := HK.out; omega
      have b2 : x ≤ 7 := by have := HK.out; omega
      have HV := Aside0.mk (show (b : Int) / 2 ^ (8 * x).toNat % 256 = be8k b k from be8_shift b x k HK.out.1 hlt)
      have HT := Aside0.mk (be8_take b k hlt)
      have HLT := Aside0.mk hlt
      clear hlt
      go_wp2_with (first | ((with_reducible refine gate_builtin (b := .append) (xs := #[.tmp 13, .tmp 20]) rfl ?_); at_builtin; rw [HV.out]; refine Kd.R_append (Kd.int .u8) (w0 := w0) w0.heap.size rfl (.tmp 13) (.tmp 20) 22 5 (.int .u8 0) 1 rfl Try.underlying22 info5 rfl (by decide) (by omega) u0 (l ++ (be8 b).take k) (be8k b k) [.int .u8 (be8k b k)] (fun k_ => P0_ k_ ∨ w.heap.size ≤ k_) (fun _ => False) rfl rfl ?aP (fun _ hk => hk.elim) ?aF ?aO ?aB ?aS ?aL ?_; (case aP => exact rfl); (case aB => exact HBr.out); (case aF => exact (fun _ hk => .inr (Nat.le_trans HG.out hk))); (case aO => exact HR.out); (case aS => exact below_size HBr.out); (case aL => have := HL.out; have := be8_len b; have hh : ((be8 b).take k).length ≤ 8 := (by rw [List.length_take]; omega); rw [List.length_append]; omega); intro v1 w1 ho hb hg hat; have HR1 := Aside0.mk ho; have HB1 := Aside0.mk hb; have HG1 := Aside0.mk hg.size; clear ho hb hg hat HR HBr))
      go_roundw
      case rel => exact ⟨x - 1, k + 1, rfl, ⟨by have := HK.out; have := HLT.out; omega⟩, ⟨by rw [HT.out, ← List.append_assoc]; exact HR1.out⟩, HB1, ⟨Nat.le_trans HG.out HG1.out⟩⟩
      case measure => simp [intOf]; omega
    · have hge : decide (0 ≤ x) = false := decide_eq_false (by have := HK.out; omega)
      have HE := Aside0.mk (show (be8 b).take k = be8 b from List.take_of_length_le (by rw [be8_len]; omega))
      go_wp2
      go_ret
      exact ⟨_, rfl, by rw [← HE.out]; exact HR.out, HBr.out⟩

attribute [local go_sem] stC stF
/-! ### A byte of its own in a new block -/
theorem lit_event {rest : List Oper} {ops : Array Oper} {Q : Exit → Act → World → Prop} {o : Oper} {a : Act} {W : World} {N : Nat} {cs : Array Value} (hg : o.guard = none) (hd : o.dst = some N)
    (hr : (execOp a.eval o).run Try.prog W = .ok (.value (.slice (some ⟨W.heap.size, 0, none⟩) cs.size cs.size)) (W.alloc (.cells cs 5)))
    (h : ∀ g, g = W.heap.size → ∀ w1, w1.heap[g]? = some (.cells cs 5 (0, 0)) → Below W.heap.size W w1 → wpList Try.prog ops Q rest (a.put (some N) (.slice (some ⟨g, 0, none⟩) cs.size cs.size)) w1) : wpList Try.prog ops Q (o :: rest) a W := by
  rw [← hd] at h
  exact Kd.event_run hg hr (h _ rfl _ (blk_new W _) (below_alloc (Below.refl _ _) _))
theorem R_blk {w : World} {g base : Nat} {c : Int} (h : w.heap[g]? = some (.cells #[.int .u8 c] 5 (0, 0))) (hb : base ≤ g) : Kd.R (Kd.int .u8) 5 w base (fun k => base ≤ k) (.slice (some ⟨g, 0, none⟩) 1 1) [c] :=
  Kd.R_of_own ⟨rfl, .inr ⟨g, 1, #[.int .u8 c], rfl, hb, h, Nat.le_refl _, by decide, rfl, rfl⟩⟩ (fun k hk => by injection hk with hk; rw [← hk]; exact hb)
def Gives96 (w : World) (x : Value) (r : Bool) : Prop := ∀ W : World, Below w.heap.size w W → Calls Try.prog 96 #[x] W fun e w' => e = .returned (.bool r) ∧ Below W.heap.size W w'
/-! ### lapidaryref06.Put -/
set_option maxHeartbeats 16000000 in
set_option maxRecDepth 100000 in
theorem ref_Put.bad (p s : Bool) (A : Option Addr) (c : Nat) (l : List Int) (a b : Nat) (w : World) (hg : Gives96 w (.agg #[.bool p, .bool s, .slice A l.length c, .float .f64 a, .float .f64 b]) false) :
    Calls Try.prog 63 #[.agg #[.bool p, .bool s, .slice A l.length c, .float .f64 a, .float .f64 b]] w fun e w' => e = .returned (.tuple #[.slice none 0 0, .int .i64 1]) ∧ Below w.heap.size w w' := by
  have hu24 := Try.underlying24
  have hu25 := Try.underlying25
  have hu61 := Try.underlying61
  have hu58 := Try.underlying58
  have n_ := Aside0.mk hg
  clear hg
  have hg := n_
  clear n_
  have HBW := Aside0.mk (Below.refl w.heap.size w)
  have Z := Aside0.mk (show w.heap.size ≤ w.heap.size from Nat.le_refl _)
  go_enter Try.func63, Try.ntmps63
  go_wp2_with (first
    | ((with_reducible refine gate_dst (N := 1) rfl ?_); (try (refine gate_guard (by rfl) ?_; dsimp only)); refine box_event ?hg (N := 1) ?hd (cs := #[.bool p, .bool s, .slice A l.length c, .float .f64 a, .float .f64 b]) (t := 58) ?hr ?_; (case hd => rfl); (case hg => rfl); (case hr => first | (go_simp; done) | (go_simp; rfl)); intro b1 hg wa1 hbox hb; have K_ := Kept.of_below hb (fun _ => False); replace Z := zA Z (K_.1); replace Z := zA Z (Nat.le_of_eq hg.symm); replace Z := zA Z (Nat.le_of_eq hg); replace Z := zA Z (blk_lt hbox); replace HBW := bS HBW hb; have BKb1 := Aside0.mk hbox; clear hb hbox hg K_; have zb10 : wa1.cell? ⟨b1, 0, none⟩ = some (.bool p) := (blk_cell BKb1.out 0).trans rfl; have zb11 : wa1.cell? ⟨b1, 1, none⟩ = some (.bool s) := (blk_cell BKb1.out 1).trans rfl; have zb12 : wa1.cell? ⟨b1, 2, none⟩ = some (.slice A l.length c) := (blk_cell BKb1.out 2).trans rfl; have zb13 : wa1.cell? ⟨b1, 3, none⟩ = some (.float .f64 a) := (blk_cell BKb1.out 3).trans rfl; have zb14 : wa1.cell? ⟨b1, 4, none⟩ = some (.float .f64 b) := (blk_cell BKb1.out 4).trans rfl)
    | ((with_reducible refine gate_dst (N := 6) rfl ?_); (try (refine gate_guard (by rfl) ?_; dsimp only)); refine goesL_ (some 6) rfl rfl Try.func96 (by kernel_rfl) rfl #[.agg #[.bool p, .bool s, .slice A l.length c, .float .f64 a, .float .f64 b]] rfl (by (try simp only [List.map_toArray, List.map_cons, List.map_nil]); first | done | rfl | (simp only [List.length_drop, List.length_take]; rfl)) ?_; refine (hg.out _ HBW.out).mono ?_; rintro e wa2 ⟨rfl, hb⟩; refine ⟨_, rfl, ?_⟩; have K_ := Kept.of_below hb (fun _ => False); replace BKb1 := mvB BKb1 K_; replace Z := zA Z (K_.1); replace HBW := bS HBW hb; clear hb K_; clear zb10 zb11 zb12 zb13 zb14; have zb10 : wa2.cell? ⟨b1, 0, none⟩ = some (.bool p) := (blk_cell BKb1.out 0).trans rfl; have zb11 : wa2.cell? ⟨b1, 1, none⟩ = some (.bool s) := (blk_cell BKb1.out 1).trans rfl; have zb12 : wa2.cell? ⟨b1, 2, none⟩ = some (.slice A l.length c) := (blk_cell BKb1.out 2).trans rfl; have zb13 : wa2.cell? ⟨b1, 3, none⟩ = some (.float .f64 a) := (blk_cell BKb1.out 3).trans rfl; have zb14 : wa2.cell? ⟨b1, 4, none⟩ = some (.float .f64 b) := (blk_cell BKb1.out 4).trans rfl))
  go_ret2
  exact ⟨rfl, HBW.out⟩
set_option maxHeartbeats 16000000 in
set_option maxRecDepth 100000 in
theorem ref_Put.whole_false (A : Option Addr) (c : Nat) (l : List Int) (a b : Nat) (w : World) (hg : Gives96 w (.agg #[.bool false, .bool false, .slice A l.length c, .float .f64 a, .float .f64 b]) true) (hr : Kd.C (Kd.int .u8) w A l.length l) (hc : l.length ≤ c) (hl : l.length ≤ 140737488351232) :
    Calls Try.prog 63 #[.agg #[.bool false, .bool false, .slice A l.length c, .float .f64 a, .float .f64 b]] w fun e w' => ∃ v_ : Value, e = .returned (.tuple #[v_, .int .i64 0]) ∧ Kd.R (Kd.int .u8) 5 w' w.heap.size (fun _ => True) v_ (0 :: l) ∧ Below w.heap.size w w' := by
  have hu24 := Try.underlying24
  have hu25 := Try.underlying25
  have hu61 := Try.underlying61
  have hu58 := Try.underlying58
  have n_ := Aside0.mk hg
  clear hg
  have hg := n_
  clear n_
  have n_ := Aside0.mk hr
  clear hr
  have hr := n_
  clear n_
  have n_ := Aside0.mk hc
  clear hc
  have hc := n_
  clear n_
  have n_ := Aside0.mk hl
  clear hl
  have hl := n_
  clear n_
  have HBW := Aside0.mk (Below.refl w.heap.size w)
  have Z := Aside0.mk (show w.heap.size ≤ w.heap.size from Nat.le_refl _)
  go_enter Try.func63, Try.ntmps63
  go_wp2_with (first
    | ((with_reducible refine gate_dst (N := 1) rfl ?_); (try (refine gate_guard (by rfl) ?_; dsimp only)); refine box_event ?hg (N := 1) ?hd (cs := #[.bool false, .bool false, .slice A l.length c, .float .f64 a, .float .f64 b]) (t := 58) ?hr ?_; (case hd => rfl); (case hg => rfl); (case hr => first | (go_simp; done) | (go_simp; rfl)); intro b1 hg wa1 hbox hb; have K_ := Kept.of_below hb (fun _ => False); replace Z := zA Z (K_.1); replace Z := zA Z (Nat.le_of_eq hg.symm); replace Z := zA Z (Nat.le_of_eq hg); replace Z := zA Z (blk_lt hbox); replace HBW := bS HBW hb; have BKb1 := Aside0.mk hbox; clear hb hbox hg K_; have zb10 : wa1.cell? ⟨b1, 0, none⟩ = some (.bool false) := (blk_cell BKb1.out 0).trans rfl; have zb11 : wa1.cell? ⟨b1, 1, none⟩ = some (.bool false) := (blk_cell BKb1.out 1).trans rfl; have zb12 : wa1.cell? ⟨b1, 2, none⟩ = some (.slice A l.length c) := (blk_cell BKb1.out 2).trans rfl; have zb13 : wa1.cell? ⟨b1, 3, none⟩ = some (.float .f64 a) := (blk_cell BKb1.out 3).trans rfl; have zb14 : wa1.cell? ⟨b1, 4, none⟩ = some (.float .f64 b) := (blk_cell BKb1.out 4).trans rfl)
    | ((with_reducible refine gate_dst (N := 6) rfl ?_); (try (refine gate_guard (by rfl) ?_; dsimp only)); refine goesL_ (some 6) rfl rfl Try.func96 (by kernel_rfl) rfl #[.agg #[.bool false, .bool false, .slice A l.length c, .float .f64 a, .float .f64 b]] rfl (by (try simp only [List.map_toArray, List.map_cons, List.map_nil]); first | done | rfl | (simp only [List.length_drop, List.length_take]; rfl)) ?_; refine (hg.out _ HBW.out).mono ?_; rintro e wa2 ⟨rfl, hb⟩; refine ⟨_, rfl, ?_⟩; have K_ := Kept.of_below hb (fun _ => False); replace BKb1 := mvB BKb1 K_; replace Z := zA Z (K_.1); replace HBW := bS HBW hb; clear hb K_; clear zb10 zb11 zb12 zb13 zb14; have zb10 : wa2.cell? ⟨b1, 0, none⟩ = some (.bool false) := (blk_cell BKb1.out 0).trans rfl; have zb11 : wa2.cell? ⟨b1, 1, none⟩ = some (.bool false) := (blk_cell BKb1.out 1).trans rfl; have zb12 : wa2.cell? ⟨b1, 2, none⟩ = some (.slice A l.length c) := (blk_cell BKb1.out 2).trans rfl; have zb13 : wa2.cell? ⟨b1, 3, none⟩ = some (.float .f64 a) := (blk_cell BKb1.out 3).trans rfl; have zb14 : wa2.cell? ⟨b1, 4, none⟩ = some (.float .f64 b) := (blk_cell BKb1.out 4).trans rfl)
    | ((with_reducible refine gate_dst (N := 17) rfl ?_); (try (refine gate_guard (by rfl) ?_; dsimp only)); refine lit_event ?hg (N := 17) ?hd (cs := #[.int .u8 0]) ?hr ?_; (case hd => rfl); (case hg => rfl); (case hr => first | (go_simp; done) | (go_simp; rfl)); intro g17 hg wa3 hbox hb; have K_ := Kept.of_below hb (fun _ => False); replace BKb1 := mvB BKb1 K_; replace Z := zA Z (K_.1); replace Z := zA Z (Nat.le_of_eq hg.symm); replace Z := zA Z (Nat.le_of_eq hg); replace Z := zA Z (blk_lt hbox); replace HBW := bS HBW hb; have BKg17 := Aside0.mk hbox; clear hb hbox hg K_; clear zb10 zb11 zb12 zb13 zb14; have zb10 : wa3.cell? ⟨b1, 0, none⟩ = some (.bool false) := (blk_cell BKb1.out 0).trans rfl; have zb11 : wa3.cell? ⟨b1, 1, none⟩ = some (.bool false) := (blk_cell BKb1.out 1).trans rfl; have zb12 : wa3.cell? ⟨b1, 2, none⟩ = some (.slice A l.length c) := (blk_cell BKb1.out 2).trans rfl; have zb13 : wa3.cell? ⟨b1, 3, none⟩ = some (.float .f64 a) := (blk_cell BKb1.out 3).trans rfl; have zb14 : wa3.cell? ⟨b1, 4, none⟩ = some (.float .f64 b) := (blk_cell BKb1.out 4).trans rfl; have zg170 : wa3.cell? ⟨g17, 0, none⟩ = some (.int .u8 0) := (blk_cell BKg17.out 0).trans rfl)
    | ((with_reducible refine gate_dst (N := 27) rfl ?_); refine Kd.R_append_row (w0 := w) (Value.int .u8) (0 : Int) (h1 := fun _ => rfl) w.heap.size rfl (.tmp 23) (.tmp 26) 22 5 (.int .u8 0) 1 rfl Try.underlying22 info5 rfl (by decide) (.slice (some ⟨g17, 0, none⟩) 1 1) [0] l A l.length c (fun _ => True) rfl rfl (fun _ _ => trivial) ?ho ?hr ?hb ?hs ?hl ?_; (case ho => exact Kd.R_mono (R_blk BKg17.out (show w.heap.size ≤ g17 from by have hZ := Z.out; omega)) (fun _ _ => trivial)); (case hr => exact Kd.C_below hr.out HBW.out); (case hb => exact HBW.out); (case hs => exact below_size HBW.out); (case hl => have h9_ := hl.out; simp only [List.length_singleton]; omega); intro v1 wa4 hv hb1 _ _; have HV := Aside0.mk hv; have HB1 := Aside0.mk hb1; clear hv hb1))
  go_ret2
  exact ⟨_, rfl, HV.out, HB1.out⟩
set_option maxHeartbeats 16000000 in
set_option maxRecDepth 100000 in
theorem ref_Put.whole_true (A : Option Addr) (c : Nat) (l : List Int) (a b : Nat) (w : World) (hg : Gives96 w (.agg #[.bool false, .bool true, .slice A l.length c, .float .f64 a, .float .f64 b]) true) (hr : Kd.C (Kd.int .u8) w A l.length l) (hc : l.length ≤ c) (hl : l.length ≤ 140737488351232) :
    Calls Try.prog 63 #[.agg #[.bool false, .bool true, .slice A l.length c, .float .f64 a, .float .f64 b]] w fun e w' => ∃ v_ : Value, e = .returned (.tuple #[v_, .int .i64 0]) ∧ Kd.R (Kd.int .u8) 5 w' w.heap.size (fun _ => True) v_ (1 :: l) ∧ Below w.heap.size w w' := by
  have hu24 := Try.underlying24
  have hu25 := Try.underlying25
  have hu61 := Try.underlying61
  have hu58 := Try.underlying58
  have n_ := Aside0.mk hg
  clear hg
  have hg := n_
  clear n_
  have n_ := Aside0.mk hr
  clear hr
  have hr := n_
  clear n_
  have n_ := Aside0.mk hc
  clear hc
  have hc := n_
  clear n_
  have n_ := Aside0.mk hl
  clear hl
  have hl := n_
  clear n_
  have HBW := Aside0.mk (Below.refl w.heap.size w)
  have Z := Aside0.mk (show w.heap.size ≤ w.heap.size from Nat.le_refl _)
  go_enter Try.func63, Try.ntmps63
  go_wp2_with (first
    | ((with_reducible refine gate_dst (N := 1) rfl ?_); (try (refine gate_guard (by rfl) ?_; dsimp only)); refine box_event ?hg (N := 1) ?hd (cs := #[.bool false, .bool true, .slice A l.length c, .float .f64 a, .float .f64 b]) (t := 58) ?hr ?_; (case hd => rfl); (case hg => rfl); (case hr => first | (go_simp; done) | (go_simp; rfl)); intro b1 hg wa1 hbox hb; have K_ := Kept.of_below hb (fun _ => False); replace Z := zA Z (K_.1); replace Z := zA Z (Nat.le_of_eq hg.symm); replace Z := zA Z (Nat.le_of_eq hg); replace Z := zA Z (blk_lt hbox); replace HBW := bS HBW hb; have BKb1 := Aside0.mk hbox; clear hb hbox hg K_; have zb10 : wa1.cell? ⟨b1, 0, none⟩ = some (.bool false) := (blk_cell BKb1.out 0).trans rfl; have zb11 : wa1.cell? ⟨b1, 1, none⟩ = some (.bool true) := (blk_cell BKb1.out 1).trans rfl; have zb12 : wa1.cell? ⟨b1, 2, none⟩ = some (.slice A l.length c) := (blk_cell BKb1.out 2).trans rfl; have zb13 : wa1.cell? ⟨b1, 3, none⟩ = some (.float .f64 a) := (blk_cell BKb1.out 3).trans rfl; have zb14 : wa1.cell? ⟨b1, 4, none⟩ = some (.float .f64 b) := (blk_cell BKb1.out 4).trans rfl)
    | ((with_reducible refine gate_dst (N := 6) rfl ?_); (try (refine gate_guard (by rfl) ?_; dsimp only)); refine goesL_ (some 6) rfl rfl Try.func96 (by kernel_rfl) rfl #[.agg #[.bool false, .bool true, .slice A l.length c, .float .f64 a, .float .f64 b]] rfl (by (try simp only [List.map_toArray, List.map_cons, List.map_nil]); first | done | rfl | (simp only [List.length_drop, List.length_take]; rfl)) ?_; refine (hg.out _ HBW.out).mono ?_; rintro e wa2 ⟨rfl, hb⟩; refine ⟨_, rfl, ?_⟩; have K_ := Kept.of_below hb (fun _ => False); replace BKb1 := mvB BKb1 K_; replace Z := zA Z (K_.1); replace HBW := bS HBW hb; clear hb K_; clear zb10 zb11 zb12 zb13 zb14; have zb10 : wa2.cell? ⟨b1, 0, none⟩ = some (.bool false) := (blk_cell BKb1.out 0).trans rfl; have zb11 : wa2.cell? ⟨b1, 1, none⟩ = some (.bool true) := (blk_cell BKb1.out 1).trans rfl; have zb12 : wa2.cell? ⟨b1, 2, none⟩ = some (.slice A l.length c) := (blk_cell BKb1.out 2).trans rfl; have zb13 : wa2.cell? ⟨b1, 3, none⟩ = some (.float .f64 a) := (blk_cell BKb1.out 3).trans rfl; have zb14 : wa2.cell? ⟨b1, 4, none⟩ = some (.float .f64 b) := (blk_cell BKb1.out 4).trans rfl)
    | ((with_reducible refine gate_dst (N := 17) rfl ?_); (try (refine gate_guard (by rfl) ?_; dsimp only)); refine lit_event ?hg (N := 17) ?hd (cs := #[.int .u8 0]) ?hr ?_; (case hd => rfl); (case hg => rfl); (case hr => first | (go_simp; done) | (go_simp; rfl)); intro g17 hg wa3 hbox hb; have K_ := Kept.of_below hb (fun _ => False); replace BKb1 := mvB BKb1 K_; replace Z := zA Z (K_.1); replace Z := zA Z (Nat.le_of_eq hg.symm); replace Z := zA Z (Nat.le_of_eq hg); replace Z := zA Z (blk_lt hbox); have BKg17 := Aside0.mk hbox; have PB_ := Aside0.mk hb; have PG_ := Aside0.mk (Nat.le_of_eq hg.symm); clear hb hbox hg K_; clear zb10 zb11 zb12 zb13 zb14; have zb10 : wa3.cell? ⟨b1, 0, none⟩ = some (.bool false) := (blk_cell BKb1.out 0).trans rfl; have zb11 : wa3.cell? ⟨b1, 1, none⟩ = some (.bool true) := (blk_cell BKb1.out 1).trans rfl; have zb12 : wa3.cell? ⟨b1, 2, none⟩ = some (.slice A l.length c) := (blk_cell BKb1.out 2).trans rfl; have zb13 : wa3.cell? ⟨b1, 3, none⟩ = some (.float .f64 a) := (blk_cell BKb1.out 3).trans rfl; have zb14 : wa3.cell? ⟨b1, 4, none⟩ = some (.float .f64 b) := (blk_cell BKb1.out 4).trans rfl; have zg170 : wa3.cell? ⟨g17, 0, none⟩ = some (.int .u8 0) := (blk_cell BKg17.out 0).trans rfl; have fg170 : wa3.frozen? ⟨g17, 0, none⟩ = false := blk_frozen BKg17.out 0; have ng17b1 : g17 ≠ b1 := (by have hZ := Z.out; omega); have nb1g17 := ng17b1.symm)
    | ((with_reducible refine gate_dst (N := 27) rfl ?_); obtain ⟨wa4, hwS⟩ : ∃ W_, W_ = (World.setCell wa3 ⟨g17, 0, none⟩ (.int .u8 1)) := ⟨_, rfl⟩; rw [← hwS]; have NB_ := Aside0.mk (show wa4.heap[g17]? = some (.cells #[.int .u8 1] 5 (0, 0)) from by rw [hwS]; refine blk_put (cs := #[.int .u8 0]) ?_ 0 _ rfl; exact BKg17.out); have K_ : Kept wa3 wa4 (fun k => k = g17) := (by rw [hwS]; exact Kept.setCell (S := fun k => k = g17) (Kept.refl _ _) (p := ⟨g17, 0, none⟩) (.inl rfl) _); have hb : Below wa2.heap.size wa2 wa4 := (by rw [hwS]; exact below_set (PB_.out) PG_.out); replace BKb1 := sB BKb1 K_ nb1g17; replace Z := zA Z (K_.1); clear K_ BKg17; have BKg17 := NB_; have K_ := Kept.of_below hb (fun _ => False); replace Z := zA Z (K_.1); replace HBW := bS HBW hb; clear K_ NB_ hb PB_ PG_ hwS; clear zb10 zb11 zb12 zb13 zb14 zg170 fg170 ng17b1 nb1g17; have zb10 : wa4.cell? ⟨b1, 0, none⟩ = some (.bool false) := (blk_cell BKb1.out 0).trans rfl; have zb11 : wa4.cell? ⟨b1, 1, none⟩ = some (.bool true) := (blk_cell BKb1.out 1).trans rfl; have zb12 : wa4.cell? ⟨b1, 2, none⟩ = some (.slice A l.length c) := (blk_cell BKb1.out 2).trans rfl; have zb13 : wa4.cell? ⟨b1, 3, none⟩ = some (.float .f64 a) := (blk_cell BKb1.out 3).trans rfl; have zb14 : wa4.cell? ⟨b1, 4, none⟩ = some (.float .f64 b) := (blk_cell BKb1.out 4).trans rfl; have zg170 : wa4.cell? ⟨g17, 0, none⟩ = some (.int .u8 1) := (blk_cell BKg17.out 0).trans rfl; refine Kd.R_append_row (w0 := w) (Value.int .u8) (0 : Int) (h1 := fun _ => rfl) w.heap.size rfl (.tmp 23) (.tmp 26) 22 5 (.int .u8 0) 1 rfl Try.underlying22 info5 rfl (by decide) (.slice (some ⟨g17, 0, none⟩) 1 1) [1] l A l.length c (fun _ => True) rfl rfl (fun _ _ => trivial) ?ho ?hr ?hb ?hs ?hl ?_; (case ho => exact Kd.R_mono (R_blk BKg17.out (show w.heap.size ≤ g17 from by have hZ := Z.out; omega)) (fun _ _ => trivial)); (case hr => exact Kd.C_below hr.out HBW.out); (case hb => exact HBW.out); (case hs => exact below_size HBW.out); (case hl => have h9_ := hl.out; simp only [List.length_singleton]; omega); intro v1 wa5 hv hb1 _ _; have HV := Aside0.mk hv; have HB1 := Aside0.mk hb1; clear hv hb1))
  go_ret2
  exact ⟨_, rfl, HV.out, HB1.out⟩
theorem atAlloc {P : Program} {f : Nat} {args : Array Value} {W : World} {o : Obj} {K : Ending → World → Prop} (h : ∀ W', Below W.heap.size W W' → W'.heap[W.heap.size]? = some o → Calls P f args W' K) : Calls P f args (W.alloc o) K := h _ (below_alloc (Below.refl _ _) o) (World.alloc_heap_new W o)
theorem atAllocD {P : Program} {f : Nat} {args : Array Value} {W : World} {o : Obj} {K : Ending → World → Prop} (h : ∀ W', Below W.heap.size W W' → W'.heap[W.heap.size]? = some o → Calls P f args W' K) : Calls P f args (W.alloc o).drew K := h _ (below_drew1 (below_alloc (Below.refl _ _) o)) (World.alloc_heap_new W o)
set_option maxHeartbeats 16000000 in
set_option maxRecDepth 100000 in
theorem ref_Put.pair (s : Bool) (A : Option Addr) (c : Nat) (l : List Int) (a b : Nat) (w : World) (hg : Gives96 w (.agg #[.bool true, .bool s, .slice A l.length c, .float .f64 a, .float .f64 b]) true) (ha : a < 18446744073709551616) (hb0 : b < 18446744073709551616) :
    Calls Try.prog 63 #[.agg #[.bool true, .bool s, .slice A l.length c, .float .f64 a, .float .f64 b]] w fun e w' => ∃ v_ : Value, e = .returned (.tuple #[v_, .int .i64 0]) ∧ Kd.R (Kd.int .u8) 5 w' w.heap.size (fun _ => True) v_ (2 :: (be8 a ++ be8 b)) ∧ Below w.heap.size w w' := by
  have hu24 := Try.underlying24
  have hu25 := Try.underlying25
  have hu61 := Try.underlying61
  have hu58 := Try.underlying58
  have n_ := Aside0.mk hg
  clear hg
  have hg := n_
  clear n_
  have n_ := Aside0.mk ha
  clear ha
  have ha := n_
  clear n_
  have n_ := Aside0.mk hb0
  clear hb0
  have hb0 := n_
  clear n_
  have HBW := Aside0.mk (Below.refl w.heap.size w)
  have Z := Aside0.mk (show w.heap.size ≤ w.heap.size from Nat.le_refl _)
  go_enter Try.func63, Try.ntmps63
  go_wp2_with (first
    | ((with_reducible refine gate_dst (N := 1) rfl ?_); (try (refine gate_guard (by rfl) ?_; dsimp only)); refine box_event ?hg (N := 1) ?hd (cs := #[.bool true, .bool s, .slice A l.length c, .float .f64 a, .float .f64 b]) (t := 58) ?hr ?_; (case hd => rfl); (case hg => rfl); (case hr => first | (go_simp; done) | (go_simp; rfl)); intro b1 hg wa1 hbox hb; have K_ := Kept.of_below hb (fun _ => False); replace Z := zA Z (K_.1); replace Z := zA Z (Nat.le_of_eq hg.symm); replace Z := zA Z (Nat.le_of_eq hg); replace Z := zA Z (blk_lt hbox); replace HBW := bS HBW hb; have BKb1 := Aside0.mk hbox; clear hb hbox hg K_; have zb10 : wa1.cell? ⟨b1, 0, none⟩ = some (.bool true) := (blk_cell BKb1.out 0).trans rfl; have zb11 : wa1.cell? ⟨b1, 1, none⟩ = some (.bool s) := (blk_cell BKb1.out 1).trans rfl; have zb12 : wa1.cell? ⟨b1, 2, none⟩ = some (.slice A l.length c) := (blk_cell BKb1.out 2).trans rfl; have zb13 : wa1.cell? ⟨b1, 3, none⟩ = some (.float .f64 a) := (blk_cell BKb1.out 3).trans rfl; have zb14 : wa1.cell? ⟨b1, 4, none⟩ = some (.float .f64 b) := (blk_cell BKb1.out 4).trans rfl)
    | ((with_reducible refine gate_dst (N := 6) rfl ?_); (try (refine gate_guard (by rfl) ?_; dsimp only)); refine goesL_ (some 6) rfl rfl Try.func96 (by kernel_rfl) rfl #[.agg #[.bool true, .bool s, .slice A l.length c, .float .f64 a, .float .f64 b]] rfl (by (try simp only [List.map_toArray, List.map_cons, List.map_nil]); first | done | rfl | (simp only [List.length_drop, List.length_take]; rfl)) ?_; refine (hg.out _ HBW.out).mono ?_; rintro e wa2 ⟨rfl, hb⟩; refine ⟨_, rfl, ?_⟩; have K_ := Kept.of_below hb (fun _ => False); replace BKb1 := mvB BKb1 K_; replace Z := zA Z (K_.1); replace HBW := bS HBW hb; clear hb K_; clear zb10 zb11 zb12 zb13 zb14; have zb10 : wa2.cell? ⟨b1, 0, none⟩ = some (.bool true) := (blk_cell BKb1.out 0).trans rfl; have zb11 : wa2.cell? ⟨b1, 1, none⟩ = some (.bool s) := (blk_cell BKb1.out 1).trans rfl; have zb12 : wa2.cell? ⟨b1, 2, none⟩ = some (.slice A l.length c) := (blk_cell BKb1.out 2).trans rfl; have zb13 : wa2.cell? ⟨b1, 3, none⟩ = some (.float .f64 a) := (blk_cell BKb1.out 3).trans rfl; have zb14 : wa2.cell? ⟨b1, 4, none⟩ = some (.float .f64 b) := (blk_cell BKb1.out 4).trans rfl))
  have HB_ := Aside0.mk (Below.refl wa2.heap.size wa2).drew
  go_region_held3 (fun w' => w'.cell? ⟨b1, 0, none⟩ = some (.bool true) ∧ w'.cell? ⟨b1, 1, none⟩ = some (.bool s) ∧ w'.cell? ⟨b1, 2, none⟩ = some (.slice A l.length c) ∧ w'.cell? ⟨b1, 3, none⟩ = some (.float .f64 a) ∧ w'.cell? ⟨b1, 4, none⟩ = some (.float .f64 b))
    (exact ⟨(blk_cell (blk_below BKb1.out (by repeat' (first | exact HB_.out | (refine below_alloc ?_ _) | exact Below.refl _ _ | (refine below_drew1 ?_)))) 0).trans rfl, (blk_cell (blk_below BKb1.out (by repeat' (first | exact HB_.out | (refine below_alloc ?_ _) | exact Below.refl _ _ | (refine below_drew1 ?_)))) 1).trans rfl, (blk_cell (blk_below BKb1.out (by repeat' (first | exact HB_.out | (refine below_alloc ?_ _) | exact Below.refl _ _ | (refine below_drew1 ?_)))) 2).trans rfl, (blk_cell (blk_below BKb1.out (by repeat' (first | exact HB_.out | (refine below_alloc ?_ _) | exact Below.refl _ _ | (refine below_drew1 ?_)))) 3).trans rfl, (blk_cell (blk_below BKb1.out (by repeat' (first | exact HB_.out | (refine below_alloc ?_ _) | exact Below.refl _ _ | (refine below_drew1 ?_)))) 4).trans rfl⟩)
    (first | (go_at_call 103; ((first | (refine atAlloc ?_; intro W9 h9 B9; have GE9 := Aside0.mk (below_size HB_.out); have n_ := Aside0.mk (below_step HB_.out h9)) | (refine atAllocD ?_; intro W9 h9 B9; have GE9 := Aside0.mk (Nat.le_refl wa2.heap.size); have n_ := Aside0.mk h9)); clear HB_; have HB_ := n_; clear n_; have X9 := Aside0.mk B9; clear h9 B9); refine (ref_eight.calls a ha.out (fun k => wa2.heap.size ≤ k) _ [2] wa2 _ HB_.out (R_blk X9.out GE9.out) (by decide)).mono ?_; rintro e wr ⟨v1_, rfl, hR, hb⟩; clear HB_; have HB_ := Aside0.mk hb; have RV := Aside0.mk hR; clear hR hb X9 GE9)
           | (go_at_call 103; refine (ref_eight.calls b hb0.out _ _ ([2] ++ be8 a) wa2 _ HB_.out RV.out (by simp [be8_len])).mono ?_; rintro e wr2 ⟨v2_, rfl, hR, hb⟩; clear HB_ RV; have HB_ := Aside0.mk hb; have RV := Aside0.mk hR; clear hR hb))
  all_goals go_wp2
  all_goals go_ret2
  all_goals exact ⟨v2_, rfl, Kd.R_mono (Kd.R_lower (show Kd.R (Kd.int .u8) 5 _ wa2.heap.size _ v2_ (2 :: (be8 a ++ be8 b)) from by have h := RV.out; rw [List.append_assoc] at h; exact h) (below_size HBW.out)) (fun _ _ => trivial), below_step HBW.out HB_.out⟩

attribute [local go_sem] stC stF
/-! ### Bytes as numbers -/
theorem first_byte {w : World} {A : Option Addr} {l : List Int} (h : Kd.C (Kd.int .u8) w A l.length l) (hl : 0 < l.length) : ∃ ad, A = some ad ∧ w.cell? ad = some (.int .u8 (rd l 0)) := by
  obtain ⟨ad, e, hx⟩ := Kd.at_int h 0 (by omega) (by omega)
  refine ⟨ad, e, ?_⟩
  have e2 : ad.add (0 : Int).toNat = ad := by simp [Addr.add]
  rw [e2] at hx
  exact hx
/-- The first k (of eight at most) of the bytes from a place on, as one number. -/
def w8 (t : List Int) (o k : Nat) : Int := ((t.drop o).take (min k 8)).foldl (fun a x => a * 256 + x) 0
theorem w8_zero (t : List Int) (o : Nat) : w8 t o 0 = 0 := by simp [w8]
theorem w8_more (t : List Int) (o k : Nat) (h : 8 ≤ k) : w8 t o k = w8 t o 8 := by unfold w8; rw [Nat.min_eq_right h, Nat.min_self]
theorem w8_succ (t : List Int) (o k : Nat) (hk : k < 8) (ho : o + k < t.length) : w8 t o (k + 1) = w8 t o k * 256 + rd t ((o + k : Nat) : Int) := by
  unfold w8
  rw [Nat.min_eq_left (by omega), Nat.min_eq_left (by omega), List.take_succ_eq_append_getElem (by rw [List.length_drop]; omega), List.foldl_append]
  simp only [List.foldl_cons, List.foldl_nil, List.getElem_drop]
  rw [show rd t ((o + k : Nat) : Int) = t[o + k] from by unfold rd; rw [Int.toNat_natCast]; simp [ho]]
theorem w8_range (t : List Int) (hb : ∀ x ∈ t, 0 ≤ x ∧ x < 256) (o k : Nat) : 0 ≤ w8 t o k ∧ w8 t o k < ((256 ^ (min k 8) : Nat) : Int) := by
  unfold w8
  generalize min k 8 = m
  have hs : ∀ x ∈ (t.drop o).take m, 0 ≤ x ∧ x < 256 := fun x hx => hb x (List.mem_of_mem_drop (List.mem_of_mem_take hx))
  have hl : ((t.drop o).take m).length ≤ m := List.length_take_le _ _
  generalize (t.drop o).take m = s at hs hl
  have key : ∀ (s : List Int), (∀ x ∈ s, 0 ≤ x ∧ x < 256) → ∀ (a : Int) (j : Nat), 0 ≤ a → a < ((256 ^ j : Nat) : Int) → 0 ≤ s.foldl (fun a x => a * 256 + x) a ∧ s.foldl (fun a x => a * 256 + x) a < ((256 ^ (j + s.length) : Nat) : Int) := by
    intro s
    induction s with
    | nil => intro _ a j h0 h1; exact ⟨h0, h1⟩
    | cons y ys ih =>
      intro hs a j h0 h1
      have hy := hs y List.mem_cons_self
      have e : (256 ^ (j + 1) : Nat) = 256 ^ j * 256 := Nat.pow_succ ..
      have h := ih (fun x hx => hs x (List.mem_cons_of_mem _ hx)) (a * 256 + y) (j + 1) (by omega) (by rw [e]; omega)
      rw [show j + (y :: ys).length = j + 1 + ys.length from by simp; omega]
      exact h
  have h := key s hs 0 0 (by decide) (by decide)
  refine ⟨h.1, Int.lt_of_lt_of_le h.2 ?_⟩
  have := Nat.pow_le_pow_right (n := 256) (by decide) (show 0 + s.length ≤ m by omega)
  omega
theorem cut1 {w : World} {A : Option Addr} {c : Nat} {l : List Int} (hr : Kd.C (Kd.int .u8) w A l.length l) (hl : 0 < l.length) (hc : l.length ≤ c) : ∃ A1, (∀ W : World, (Instr.slice 22 (.slice A l.length c) (some (.int .i64 1)) none none).run Try.prog W = .ok (.slice A1 (l.length - 1) (c - 1)) W) ∧ Kd.C (Kd.int .u8) w A1 (l.drop 1).length (l.drop 1) := by
  obtain ⟨i0, hi, hz0, hz1, hz2⟩ := info_parts info5
  have h := cut_from (P := Try.prog) 22 5 .i64 Try.underlying22 hi 1 hz1 A l.length c 1 (by decide) (by omega)
  exact ⟨_, h, Kd.C_drop hr hl hc⟩
theorem gu64 {x : Int} (h1 : 0 ≤ x) (h2 : x < 18446744073709551616) : IntKind.u64.wrap x = x := by
  have : IntKind.u64.wrap x = x % 18446744073709551616 := by simp [IntKind.wrap, IntKind.bits, IntKind.signed]
  rw [this]; omega
theorem w8_step (t : List Int) (hb : ∀ x ∈ t, 0 ≤ x ∧ x < 256) (o k : Nat) (x : Int) (hk : k < 8) (ho : o + k < t.length) (hx : x = ((o + k : Nat) : Int)) : bits BinOp.or IntKind.u64 (IntKind.u64.wrap (w8 t o k * 256)) (IntKind.u64.wrap (rd t x)) = w8 t o (k + 1) := by
  subst hx
  rw [w8_succ t o k hk ho]
  obtain ⟨h1, h2⟩ := w8_range t hb o k
  have h3 : 256 ^ (min k 8) ≤ 256 ^ 7 := Nat.pow_le_pow_right (by decide) (by omega)
  have e7 : (256 : Nat) ^ 7 = 72057594037927936 := by decide
  have h4 := hb (rd t ((o + k : Nat) : Int)) (by unfold rd; rw [Int.toNat_natCast]; simp [ho])
  rw [gu64 (by omega) (by omega), gu64 h4.1 (by omega)]
  exact bits_join .u64 64 (by decide) (fun n a b => gu64 a b) 8 (w8 t o k * 256) _ (by omega) (by omega) (by omega) h4.1 (by omega) (by omega)

end Go.Proofs.Ytfjbhccapgnkiaa.P
