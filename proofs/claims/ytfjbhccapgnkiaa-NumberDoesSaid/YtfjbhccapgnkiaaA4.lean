import Derived.Test.YtfjbhccapgnkiaaA2
import Derived.WalkSpells
import Derived.Outline
import Derived.StillTailTactics
import Derived.LoopTactic
namespace Go.Proofs.Ytfjbhccapgnkiaa.P
open Go.RowKit Go.Proofs.YtfjbhccapgnkiaaW.PrintWords Go.Proofs.YtfjbhccapgnkiaaW.PrintLast Go.Proofs.YtfjbhccapgnkiaaW.PrintMore
attribute [local go_sem] max2_int min2_int max_two min_two max_three min_three max_four min_four
set_option linter.unusedVariables false
set_option maxHeartbeats 16000000
set_option maxRecDepth 100000
set_option linter.unusedSimpArgs false
/-! ### slices.Clone -/
def slices_Clone_byte_byte.f (l0 : List Int) : Option (List Int) := if l0.length ≤ 140737488355328 then some l0 else none
theorem slices_Clone_byte_byte.calls (A0 : Option Addr) (c0 : Nat) (l0 : List Int) (r : List Int) (w : World) (a0 : Kd.C (Kd.int .u8) w A0 l0.length l0) (hc0 : l0.length ≤ c0) (h : slices_Clone_byte_byte.f l0 = some r) :
  Calls Try.prog 105 #[.slice A0 l0.length c0] w fun e w' => ∃ a1 : Value, e = .returned (a1) ∧ Kd.R (Kd.int .u8) 5 w' w.heap.size (fun _ => True) a1 r ∧ Below w.heap.size w w' := by
 unfold slices_Clone_byte_byte.f at h
 split at h
 case isFalse => cases h
 case isTrue hlen =>
 obtain rfl := Option.some.inj h
 clear h
 cases A0 with
 | none =>
  have h0 : l0.length = 0 := by
   rcases Nat.eq_zero_or_pos l0.length with h0 | h0
   ·exact h0
   ·obtain ⟨ad, e, _⟩ := Kd.at_int a0 0 (by omega) (by omega)
    cases e
  obtain rfl := List.eq_nil_of_length_eq_zero h0
  have heq := fun (w : World) (a : Option Addr) (n c : Nat) => Lib.run_eql_slice_nil (P := Try.prog) w 22 5 a n c 0 0 Try.underlying22
  go_enter Try.func105, Try.ntmps105
  go_wp2
  go_ret
  exact ⟨_, rfl, Kd.R_nil _ _ _ _ _, Below.refl _ _⟩
 | some ad =>
  have heq := fun (w : World) (a : Option Addr) (n c : Nat) => Lib.run_eql_slice_nil (P := Try.prog) w 22 5 a n c 0 0 Try.underlying22
  have HR := Aside0.mk a0
  clear a0
  go_enter Try.func105, Try.ntmps105
  go_wp2_with (first | ((with_reducible refine gd 7 rfl ?_); refine Kd.R_append_row (w0 := w) (Value.int .u8) (0 : Int) (h1 := fun _ => rfl) w.heap.size rfl (.tmp 5) (.tmp 6) 22 5 (.int .u8 0) 1 rfl Try.underlying22 info5 rfl (by decide) (.slice (some ⟨w.heap.size, 0, none⟩) 0 0) [] l0 (some ad) l0.length c0 (fun _ => True) rfl rfl (fun _ _ => trivial) ?ho ?hr ?hb ?hs ?hl ?_; (case ho => exact Kd.R_of_own (own_lit w w.heap.size 5 .u8 [] (Nat.le_refl _) (by decide)) (fun _ _ => trivial)); (case hr => exact Kd.C_below HR.out (below_alloc (Below.refl _ _) _)); (case hb => exact below_alloc (Below.refl _ _) _); (case hs => simp); (case hl => simpa using hlen); intro v1 w1 hv a2 _ _; have HV := Aside0.mk hv; have HB := Aside0.mk a2; clear hv a2))
  go_ret
  exact ⟨_, rfl, HV.out, HB.out⟩
end Go.Proofs.Ytfjbhccapgnkiaa.P
namespace Go.Proofs.Ytfjbhccapgnkiaa.P
open Go.RowKit Go.Proofs.YtfjbhccapgnkiaaW.PrintWords Go.Proofs.YtfjbhccapgnkiaaW.PrintLast Go.Proofs.YtfjbhccapgnkiaaW.PrintMore
attribute [local go_sem] max2_int min2_int max_two min_two max_three min_three max_four min_four
set_option linter.unusedVariables false
set_option maxHeartbeats 16000000
set_option maxRecDepth 100000
set_option linter.unusedSimpArgs false
/-! ### lapidaryref02.made -/
def strip (l : List Int) : List Int := l.dropWhile (fun x => x == 0)
theorem strip_zero (l : List Int) (k : Nat) (hk : k < l.length) (h : l[k] = 0) : strip (l.drop k) = strip (l.drop (k + 1)) := by
 rw [List.drop_eq_getElem_cons hk]
 simp [strip, h]
theorem strip_ne (l : List Int) (k : Nat) (hk : k < l.length) (h : l[k] ≠ 0) : strip (l.drop k) = l.drop k := by
 unfold strip
 rw [List.drop_eq_getElem_cons hk, List.dropWhile_cons_of_neg (by simpa using h)]
theorem strip_end (l : List Int) (k : Nat) (hk : l.length ≤ k) : strip (l.drop k) = l.drop k := by
 rw [List.drop_of_length_le hk]; rfl
theorem drop_ne (l : List Int) (k : Nat) : (!(l.drop k).isEmpty) = decide (k < l.length) := by
 by_cases h : k < l.length
 ·rw [List.drop_eq_getElem_cons h]; simp [h]
 ·rw [List.drop_of_length_le (by omega)]; simp [h]
def lapidaryref02_made.f (a0 : Bool) (l1 : List Int) : Option (Bool × List Int) := if l1.length ≤ 140737488355328 then some (a0 && !(strip l1).isEmpty, strip l1) else none
/-- A region whose head only reads and whose end is a chain: walked in the text's order, the world behind the draw under a letter. -/
theorem still_letter {P : Program} {id : Nat} {Q : Exit → Act → World → Prop} {a : Act} {w : World} {l : List Oper} (n : Nat) (hm : P.follows .mixedOrders = true) (hB : Region.lexTailB .any l.toArray n = true)
  (h : ∀ wd : World, wd.heap = w.heap → Below w.heap.size w wd → wpStill P l.toArray wd (fun a' => wpList P l.toArray Q (l.drop n) a' wd) (l.take n) a) : (Code.region id l.toArray true).wp P Q a w :=
 wp_region_still_tail n hm hB (h w.drew rfl (Below.refl _ _).drew)
theorem bcell {W w1 : World} (hb : Below W.heap.size W w1) : (∀ b o, b < W.heap.size → w1.cell? ⟨b, o, none⟩ = W.cell? ⟨b, o, none⟩) ∧ (∀ b o, b < W.heap.size → w1.frozen? ⟨b, o, none⟩ = W.frozen? ⟨b, o, none⟩) :=
 ⟨fun b o h => hb.cell (p := ⟨b, o, none⟩) h, fun b o h => hb.frozen (p := ⟨b, o, none⟩) h⟩
theorem lapidaryref02_made.calls (a0 : Bool) (A1 : Option Addr) (c1 : Nat) (l1 : List Int) (r1 : Bool) (r2 : List Int) (w : World) (ag : Kd.C (Kd.int .u8) w A1 l1.length l1) (af : l1.length ≤ c1) (h : lapidaryref02_made.f a0 l1 = some (r1, r2)) :
  Calls Try.prog 86 #[.bool a0, .slice A1 l1.length c1] w fun e w' => ∃ ah : Value, e = .returned (.agg #[.bool r1, ah]) ∧ Kd.R (Kd.int .u8) 5 w' w.heap.size (fun _ => True) ah r2 ∧ Below w.heap.size w w' := by
 unfold lapidaryref02_made.f at h
 split at h
 case isFalse => cases h
 case isTrue hlen =>
 simp only [Option.some.injEq, Prod.mk.injEq] at h
 have H1 := Aside0.mk h.1
 have H2 := Aside0.mk h.2
 have HR := Aside0.mk ag
 clear h ag
 go_enter Try.func86, Try.ntmps86
 go_wp2_with (first | ((with_reducible refine gd 4 rfl ?_); refine bE (N := 4) (cs := #[.bool false, .slice none 0 0]) (t := 24) ?_; intro g4 hg w1 hbox hb; have a7 := Aside0.mk hbox; have a5 := Aside0.mk hb; have a6 := Aside0.mk (Nat.le_of_eq hg.symm); clear hb hbox hg))
 have ae := Aside0.mk (Kd.C_below HR.out a5.out)
 go_loop [5] (fun v => ∃ k : Nat, k ≤ l1.length ∧ v = .int .i64 k ∧ Aside0 (strip l1 = strip (l1.drop k))) (fun v => l1.length - (intOf v).toNat)
 case atStart => exact ⟨0, by omega, rfl, ⟨rfl⟩⟩
 case round =>
  obtain ⟨k, hk, rfl, HS⟩ := hrel
  by_cases hlt : k < l1.length
  ·obtain ⟨ad, eA, hcell⟩ := Kd.at_int ae.out (k : Int) (by omega) (by omega)
   cases eA
   rw [Int.toNat_natCast] at hcell
   by_cases hz : l1[k] = 0
   ·have hx : rd l1 (k : Int) = 0 := by unfold rd; simp [hlt, hz]
    rw [hx] at hcell
    clear hx
    have a2 := Aside0.mk (HS.out.trans (strip_zero l1 k hlt hz))
    clear hz HS
    go_wp2_with fail
    go_round
    case rel => exact ⟨k + 1, by omega, by go_num, a2⟩
    case measure => simp [intOf]; omega
   ·have hx : rd l1 (k : Int) = l1[k] := by unfold rd; simp [hlt]
    rw [hx] at hcell
    clear hx
    have hzb : (l1[k] == 0) = false := by simpa using hz
    have a2 := Aside0.mk (HS.out.trans (strip_ne l1 k hlt hz))
    clear hz HS
    obtain ⟨i5, a4, _, a3, _⟩ := info_parts info5
    obtain ⟨A', hcut, hA, hC⟩ := print_drop_of (P := Try.prog) (Value.int .u8) (0 : Int) 22 5 .i64 Try.underlying22 a4 a3 (some ad) c1 l1 k (by omega) (by omega) af
    have HA := Aside0.mk (hA w1 (Kd.reads_of_C ae.out))
    have a8 := blk_lt a7.out
    rw [Int.toNat_natCast] at hcut HA
    rw [List.length_drop] at hcut HA
    clear hA a4 a3 hC
    go_wp2_with fail
    all_goals
     refine still_letter 5 (by kernel_rfl) (by kernel_rfl) ?_
     intro wd hwd hbd
     simp only [List.take_succ_cons, List.take_zero, List.drop_succ_cons, List.drop_zero]
     obtain ⟨nb, hnb, hb6⟩ : ∃ (nb : Bool), Aside0 (nb = (a0 && decide (k < l1.length))) ∧ wd.heap[w1.heap.size]? = some (.cells #[.bool nb, .slice none 0 0] 24) := ⟨(a0 && decide (k < l1.length)), ⟨rfl⟩, by rw [hwd, blk_new]; simp [*]⟩
     have HBd := Aside0.mk (below_step a5.out (below_step (below_alloc (Below.refl _ _) _) hbd))
     have hs1 : w1.heap.size < wd.heap.size := blk_lt hb6
     have c60 := (blk_cell hb6 0).trans rfl
     have c61 := (blk_cell hb6 1).trans rfl
     have aa := Aside0.mk hb6
     have ac := Aside0.mk (blk_below a7.out (below_step (below_alloc (Below.refl _ _) _) hbd))
     have a9 := Aside0.mk (Kd.C_of_reads (h1 := fun _ => rfl) (ReadsOf.below HA.out (below_step (below_alloc (Below.refl _ _) _) hbd)))
     clear hb6 hwd hbd
     repeat still_step
     refine wpStill_nil ?_
     go_wp2_with (first | ((with_reducible refine gd 33 rfl ?_); refine Kd.R_append_row (w0 := wd) (Value.int .u8) (0 : Int) (h1 := fun _ => rfl) wd.heap.size rfl (.tmp 29) (.tmp 32) 22 5 (.int .u8 0) 1 rfl Try.underlying22 info5 rfl (by decide) (.slice none 0 0) [] (l1.drop k) A' (l1.length - k) (c1 - k) (fun b => wd.heap.size ≤ b) rfl rfl (fun _ h => h) ?ho ?hr ?hb ?hs ?hl ?_; (case ho => exact Kd.R_nil _ _ _ _ _); (case hr => exact a9.out); (case hb => exact Below.refl _ _); (case hs => exact Nat.le_refl _); (case hl => simp; omega); intro v1 w3 hv a1 _ _; obtain ⟨A2, c2, ev⟩ := Kd.R_slice hv; subst ev; simp only [List.nil_append, List.length_drop] at hv; have HV := Aside0.mk hv; have ab := Aside0.mk a1; have b6 := blk_below aa.out a1; have b4 := blk_below ac.out a1; have d60 := (blk_cell b6 0).trans rfl; have d61 := (blk_cell b6 1).trans rfl; have d40 := (blk_cell b4 0).trans rfl; have d41 := (blk_cell b4 1).trans rfl; have e60 := blk_frozen b6 0; have e61 := blk_frozen b6 1; have e40 := blk_frozen b4 0; have e41 := blk_frozen b4 1; have B6 := Aside0.mk b6; have B4 := Aside0.mk b4; clear b6 b4 hv a1))
     have e1 : nb = r1 := by rw [hnb.out, ← H1.out, a2.out, drop_ne]
     have e2 : l1.drop k = r2 := a2.out ▸ H2.out
     subst e1 e2
     refine bodyPost_ret (results_cell_row rfl _ _ g4 24 #[.bool nb, .slice A2 (l1.length - k) c2] (0, 0) _ rfl (blk_put (blk_put (blk_far B4.out (Nat.ne_of_lt a8) _) 0 _ rfl) 1 _ rfl) Try.underlying24 rfl (by kernel_rfl)) rfl ?_
     refine ⟨_, rfl, ?_, ?_⟩
     ·refine Kd.R_lower (Kd.R_mono (Kd.R_far (p := ⟨g4, 1, none⟩) (Kd.R_far (p := ⟨g4, 0, none⟩) (Kd.R_far (p := ⟨w1.heap.size, 1, none⟩) HV.out (fun b hb => ?_) _) (fun b hb => ?_) _) (fun b hb => ?_) _) (fun _ _ => trivial)) HBd.out.size <;> (simp only; omega)
     ·exact below_set (below_set (below_set (below_step HBd.out ab.out) a5.out.size) a6.out) a6.out
  ·have hltb : decide ((k : Int) < (l1.length : Int)) = false := by simp; omega
   have hltc : decide (k < l1.length) = false := by simp; omega
   have a2 := Aside0.mk (HS.out.trans (strip_end l1 k (by omega)))
   clear HS
   obtain ⟨i5, a4, _, a3, _⟩ := info_parts info5
   obtain ⟨A', hcut, hA, hC⟩ := print_drop_of (P := Try.prog) (Value.int .u8) (0 : Int) 22 5 .i64 Try.underlying22 a4 a3 A1 c1 l1 k (by omega) (by omega) af
   have HA := Aside0.mk (hA w1 (Kd.reads_of_C ae.out))
   have a8 := blk_lt a7.out
   rw [Int.toNat_natCast] at hcut HA
   rw [List.length_drop] at hcut HA
   clear hA a4 a3 hC
   go_wp2_with fail
   all_goals
    refine still_letter 5 (by kernel_rfl) (by kernel_rfl) ?_
    intro wd hwd hbd
    simp only [List.take_succ_cons, List.take_zero, List.drop_succ_cons, List.drop_zero]
    obtain ⟨nb, hnb, hb6⟩ : ∃ (nb : Bool), Aside0 (nb = (a0 && decide (k < l1.length))) ∧ wd.heap[w1.heap.size]? = some (.cells #[.bool nb, .slice none 0 0] 24) := ⟨(a0 && decide (k < l1.length)), ⟨rfl⟩, by rw [hwd, blk_new]; simp [*]⟩
    have HBd := Aside0.mk (below_step a5.out (below_step (below_alloc (Below.refl _ _) _) hbd))
    have hs1 : w1.heap.size < wd.heap.size := blk_lt hb6
    have c60 := (blk_cell hb6 0).trans rfl
    have c61 := (blk_cell hb6 1).trans rfl
    have aa := Aside0.mk hb6
    have ac := Aside0.mk (blk_below a7.out (below_step (below_alloc (Below.refl _ _) _) hbd))
    have a9 := Aside0.mk (Kd.C_of_reads (h1 := fun _ => rfl) (ReadsOf.below HA.out (below_step (below_alloc (Below.refl _ _) _) hbd)))
    clear hb6 hwd hbd
    repeat still_step
    refine wpStill_nil ?_
    go_wp2_with (first | ((with_reducible refine gd 33 rfl ?_); refine Kd.R_append_row (w0 := wd) (Value.int .u8) (0 : Int) (h1 := fun _ => rfl) wd.heap.size rfl (.tmp 29) (.tmp 32) 22 5 (.int .u8 0) 1 rfl Try.underlying22 info5 rfl (by decide) (.slice none 0 0) [] (l1.drop k) A' (l1.length - k) (c1 - k) (fun b => wd.heap.size ≤ b) rfl rfl (fun _ h => h) ?ho ?hr ?hb ?hs ?hl ?_; (case ho => exact Kd.R_nil _ _ _ _ _); (case hr => exact a9.out); (case hb => exact Below.refl _ _); (case hs => exact Nat.le_refl _); (case hl => simp; omega); intro v1 w3 hv a1 _ _; obtain ⟨A2, c2, ev⟩ := Kd.R_slice hv; subst ev; simp only [List.nil_append, List.length_drop] at hv; have HV := Aside0.mk hv; have ab := Aside0.mk a1; have b6 := blk_below aa.out a1; have b4 := blk_below ac.out a1; have d60 := (blk_cell b6 0).trans rfl; have d61 := (blk_cell b6 1).trans rfl; have d40 := (blk_cell b4 0).trans rfl; have d41 := (blk_cell b4 1).trans rfl; have e60 := blk_frozen b6 0; have e61 := blk_frozen b6 1; have e40 := blk_frozen b4 0; have e41 := blk_frozen b4 1; have B6 := Aside0.mk b6; have B4 := Aside0.mk b4; clear b6 b4 hv a1))
    have e1 : nb = r1 := by rw [hnb.out, ← H1.out, a2.out, drop_ne]
    have e2 : l1.drop k = r2 := a2.out ▸ H2.out
    subst e1 e2
    refine bodyPost_ret (results_cell_row rfl _ _ g4 24 #[.bool nb, .slice A2 (l1.length - k) c2] (0, 0) _ rfl (blk_put (blk_put (blk_far B4.out (Nat.ne_of_lt a8) _) 0 _ rfl) 1 _ rfl) Try.underlying24 rfl (by kernel_rfl)) rfl ?_
    refine ⟨_, rfl, ?_, ?_⟩
    ·refine Kd.R_lower (Kd.R_mono (Kd.R_far (p := ⟨g4, 1, none⟩) (Kd.R_far (p := ⟨g4, 0, none⟩) (Kd.R_far (p := ⟨w1.heap.size, 1, none⟩) HV.out (fun b hb => ?_) _) (fun b hb => ?_) _) (fun b hb => ?_) _) (fun _ _ => trivial)) HBd.out.size <;> (simp only; omega)
    ·exact below_set (below_set (below_set (below_step HBd.out ab.out) a5.out.size) a6.out) a6.out
end Go.Proofs.Ytfjbhccapgnkiaa.P
