import Derived.Test.YtfjbhccapgnkiaaN1
import Derived.ChangeKeysEq
namespace Go.Proofs.Ytfjbhccapgnkiaa.P
open Go.RowKit Go.Proofs.YtfjbhccapgnkiaaW.PrintWords Go.Proofs.YtfjbhccapgnkiaaW.PrintLast Go.Proofs.YtfjbhccapgnkiaaW.PrintMore
attribute [local go_sem] max2_int min2_int max_two min_two max_three min_three max_four min_four
set_option linter.unusedVariables false
set_option linter.unusedSimpArgs false

/-! ### An array of two words against the one of noughts -/
theorem info115 : ∃ i, Try.prog.info? 115 = some i := by
  have h : (Try.prog.info? 115).isSome = true := by kernel_rfl
  exact Option.isSome_iff_exists.1 h
theorem eq_u64 (d : Nat) (a b : Int) (w : World) : (Op.equalIn (d + 1) 115 (.int .u64 a) (.int .u64 b)).run Try.prog w = .ok (a == b) w := by
  simp [Op.equalIn, run_underlying Try.underlying115]
theorem eq_pair (x y : Int) (W : World) : (Op.equalIn 10000 130 (.agg #[.int .u64 x, .int .u64 y]) (.agg #[.int .u64 0, .int .u64 0])).run Try.prog W = .ok (x == 0 && y == 0) W := by
  obtain ⟨i, hi⟩ := info115
  have hc : Try.prog.cellsOf 115 = 1 := by kernel_rfl
  have h1 : ∀ (a b : Int) (w : World), (Op.equalIn 9999 115 (.int .u64 a) (.int .u64 b)).run Try.prog w = .ok (a == b) w := fun a b w => eq_u64 9998 a b w
  have p0 : ∀ (a b : Int) (w : World), (part 115 #[.int .u64 a, .int .u64 b] (0 * 1)).run Try.prog w = .ok (.int .u64 a) w := fun a b w => by kernel_rfl
  have p1 : ∀ (a b : Int) (w : World), (part 115 #[.int .u64 a, .int .u64 b] (1 * 1)).run Try.prog w = .ok (.int .u64 b) w := fun a b w => by kernel_rfl
  rw [show (10000 : Nat) = 9999 + 1 from rfl, run_equalIn_array (w := W) 9999 _ _ Try.underlying130 hi, hc]
  have hr : List.range 2 = [0, 1] := rfl
  rw [hr]
  simp only [Op.eqItems, Sem.run_bind, p0, p1, h1, Result.andThen_ok]
  cases hx : (x == 0)
  · simp [Sem.run]
  · simp only [Bool.not_true, Bool.false_eq_true, if_false, Sem.run_bind, p1, h1, Result.andThen_ok]
    cases hy : (y == 0) <;> simp [Sem.run]

attribute [local go_sem] stC stF
/-! ### number.key, number.pair -/
set_option maxHeartbeats 4000000 in
set_option maxRecDepth 100000 in
theorem number_key.calls (a b : Nat) (w : World) : Calls Try.prog 99 #[.complex .f64 a b] w fun e w' => e = .returned (.agg #[.int .u64 (bitsN a : Int), .int .u64 (bitsN b : Int)]) ∧ Below w.heap.size w w' := by
  have HB := Aside0.mk (Below.refl w.heap.size w)
  go_enter Try.func99, Try.ntmps99
  go_wp2_with (first
    | ((with_reducible refine gate_dst (N := 2) rfl ?_); refine box_event ?hg (N := 2) ?hd (cs := #[.int .u64 0, .int .u64 0]) (t := 130) ?hr ?_; (case hd => rfl); (case hg => rfl); (case hr => first | (go_simp; done) | (go_simp; rfl)); intro g1 hg w1 hbox hb; have BKg1 := Aside0.mk hbox; have GEg1 := Aside0.mk (Nat.le_trans (below_size HB.out) (Nat.le_of_eq hg.symm)); have n_ := Aside0.mk (below_step HB.out hb); clear HB; have HB := n_; clear n_; clear hb hbox hg)
    | ((with_reducible refine gate_dst (N := 5) rfl ?_); refine goesL_ (some 5) rfl rfl Try.func125 (by kernel_rfl) rfl #[.float .f64 a] rfl (by (try simp only [List.map_toArray, List.map_cons, List.map_nil]); first | done | rfl) ?_; refine (number_bits.calls a _).mono ?_; rintro e w2 ⟨rfl, hb⟩; refine ⟨_, rfl, ?_⟩; have n_ := Aside0.mk (blk_below BKg1.out hb); clear BKg1; have BKg1 := n_; clear n_; have n_ := Aside0.mk (below_step HB.out hb); clear HB; have HB := n_; clear n_; clear hb)
    | ((with_reducible refine gate_dst (N := 8) rfl ?_); refine goesL_ (some 8) rfl rfl Try.func125 (by kernel_rfl) rfl #[.float .f64 b] rfl (by (try simp only [List.map_toArray, List.map_cons, List.map_nil]); first | done | rfl) ?_; refine (number_bits.calls b _).mono ?_; rintro e w3 ⟨rfl, hb⟩; refine ⟨_, rfl, ?_⟩; have n_ := Aside0.mk (blk_below BKg1.out hb); clear BKg1; have BKg1 := n_; clear n_; have n_ := Aside0.mk (below_step HB.out hb); clear HB; have HB := n_; clear n_; clear hb; have hcz0 : w3.cell? ⟨g1, 0, none⟩ = some (.int .u64 0) := (blk_cell BKg1.out 0).trans rfl; have hcz1 : w3.cell? ⟨g1, 1, none⟩ = some (.int .u64 0) := (blk_cell BKg1.out 1).trans rfl; have hfz0 := blk_frozen BKg1.out 0; have hfz1 := blk_frozen BKg1.out 1))
  refine bodyPost_ret (results_cell_row rfl _ _ g1 130 #[.int .u64 (bitsN a : Int), .int .u64 (bitsN b : Int)] (0, 0) _ rfl (by refine blk_put (cs := #[.int .u64 (bitsN a : Int), .int .u64 0]) ?_ 1 _ rfl; refine blk_put (cs := #[.int .u64 0, .int .u64 0]) ?_ 0 _ rfl; exact BKg1.out) Try.underlying130 rfl (by kernel_rfl)) rfl ?_
  exact ⟨rfl, below_set (below_set HB.out GEg1.out) GEg1.out⟩
set_option maxHeartbeats 4000000 in
set_option maxRecDepth 100000 in
theorem number_pair.calls (a b : Nat) (w : World) : Calls Try.prog 101 #[.complex .f64 a b] w fun e w' => e = .returned (.agg #[.bool true, .bool false, .slice none 0 0, .complex .f64 a b]) ∧ Below w.heap.size w w' := by
  have HB := Aside0.mk (Below.refl w.heap.size w)
  go_enter Try.func101, Try.ntmps101
  go_wp2_with (first
    | ((with_reducible refine gate_dst (N := 2) rfl ?_); refine box_event ?hg (N := 2) ?hd (cs := #[.bool false, .bool false, .slice none 0 0, .complex .f64 0 0]) (t := 61) ?hr ?_; (case hd => rfl); (case hg => rfl); (case hr => first | (go_simp; done) | (go_simp; rfl)); intro g1 hg w1 hbox hb; have BKg1 := Aside0.mk hbox; have GEg1 := Aside0.mk (Nat.le_trans (below_size HB.out) (Nat.le_of_eq hg.symm)); have n_ := Aside0.mk (below_step HB.out hb); clear HB; have HB := n_; clear n_; clear hb hbox hg; have hcz0 : w1.cell? ⟨g1, 0, none⟩ = some (.bool false) := (blk_cell BKg1.out 0).trans rfl; have hcz1 : w1.cell? ⟨g1, 1, none⟩ = some (.bool false) := (blk_cell BKg1.out 1).trans rfl; have hcz2 : w1.cell? ⟨g1, 2, none⟩ = some (.slice none 0 0) := (blk_cell BKg1.out 2).trans rfl; have hcz3 : w1.cell? ⟨g1, 3, none⟩ = some (.complex .f64 0 0) := (blk_cell BKg1.out 3).trans rfl; have hfz0 := blk_frozen BKg1.out 0; have hfz1 := blk_frozen BKg1.out 1; have hfz2 := blk_frozen BKg1.out 2; have hfz3 := blk_frozen BKg1.out 3))
  refine bodyPost_ret (results_cell_row rfl _ _ g1 61 #[.bool true, .bool false, .slice none 0 0, .complex .f64 a b] (0, 0) _ rfl (by refine blk_put (cs := #[.bool true, .bool false, .slice none 0 0, .complex .f64 0 0]) ?_ 3 _ rfl; refine blk_put (cs := #[.bool true, .bool false, .slice none 0 0, .complex .f64 0 0]) ?_ 2 _ rfl; refine blk_put (cs := #[.bool true, .bool false, .slice none 0 0, .complex .f64 0 0]) ?_ 1 _ rfl; refine blk_put (cs := #[.bool false, .bool false, .slice none 0 0, .complex .f64 0 0]) ?_ 0 _ rfl; exact BKg1.out) Try.underlying61 rfl (by kernel_rfl)) rfl ?_
  exact ⟨rfl, below_set (below_set (below_set (below_set HB.out GEg1.out) GEg1.out) GEg1.out) GEg1.out⟩

/-! ### Sums of complex numbers -/
theorem run_fa (op : BinOp) (hop : op = .add ∨ op = .sub ∨ op = .mul ∨ op = .quo) (x y : Nat) (W : World) : ∃ r n, (Op.floatArith op .f64 x y).run Try.prog W = .ok (.float .f64 r) (W.drewN n) ∧ FO op x y r := by
  obtain ⟨r, n, h1, h2⟩ := run_f64 op hop 56 x y W
  refine ⟨r, n, ?_, h2⟩
  rcases hop with rfl | rfl | rfl | rfl <;> exact h1
theorem run_csum (op : BinOp) (hop : op = .add ∨ op = .sub) (t : TypeId) (a b c d : Nat) (W : World) : ∃ re im n, (binOp op t (.complex .f64 a b) (.complex .f64 c d)).run Try.prog W = .ok (.complex .f64 re im) (W.drewN n) ∧ FO op a c re ∧ FO op b d im := by
  have hop4 : op = .add ∨ op = .sub ∨ op = .mul ∨ op = .quo := by rcases hop with h | h; exact .inl h; exact .inr (.inl h)
  obtain ⟨re, n, h1, h2⟩ := run_fa op hop4 a c W
  obtain ⟨im, m, h3, h4⟩ := run_fa op hop4 b d (W.drewN n)
  refine ⟨re, im, n + m, ?_, h2, h4⟩
  have e : (W.drewN n).drewN m = W.drewN (n + m) := by simp [World.drewN, Nat.add_assoc]
  rw [← e]
  rcases hop with rfl | rfl <;> simp [binOp, Op.complexOp, Op.Complex.arith, h1, h3]
theorem cplx_event {rest : List Oper} {ops : Array Oper} {Q : Exit → Act → World → Prop} {o : Oper} {a : Act} {W : World} (hgd : o.guard = none) {op : BinOp} {t t2 : TypeId} {x y : Operand} {p q u v : Nat} (ho : o.op = .binOp op t x y t2) (hop : op = .add ∨ op = .sub)
    (hx : a.eval x = .complex .f64 p q) (hy : a.eval y = .complex .f64 u v) (h : ∀ re im w1, FO op p u re → FO op q v im → Below W.heap.size W w1 → wpList Try.prog ops Q rest (a.put o.dst (.complex .f64 re im)) w1) : wpList Try.prog ops Q (o :: rest) a W := by
  obtain ⟨re, im, n, hr, h1, h2⟩ := run_csum op hop t p q u v W
  have hrun : (execOp a.eval o).run Try.prog W = .ok (.value (.complex .f64 re im)) (W.drewN n) := by
    unfold execOp
    rw [ho]
    simp only [hx, hy]
    rcases hop with rfl | rfl <;> simp [eqGuard, hr, Result.andThen]
  exact Kd.event_run hgd hrun (h re im _ h1 h2 (by apply pw_below_drewN; exact Below.refl _ _))
theorem results_ctt3 {P : Program} {fn : Func} {p u v : Tmp} {ty : TypeId} (h : fn.results = #[.cell p ty, .tmp u, .tmp v]) (tmps : Array Value) (w : World) (g : Nat) (t : TypeId) (cs : Array Value) (fr : Nat × Nat) (d : TypeDesc)
    (hp : tmps.getD p undef = .pointer (some ⟨g, 0, none⟩)) (hg : w.heap[g]? = some (.cells cs t fr))
    (hu : P.underlying ty = some d) (hd : (match d with | .struct _ | .array _ _ => true | _ => false) = true) (hi : (P.info? ty).map (·.size) = some cs.size) :
    (results fn tmps).run P w = .ok (.tuple #[.agg cs, tmps.getD u undef, tmps.getD v undef]) w := by
  have hp' : tmps[p]?.getD undef = .pointer (some ⟨g, 0, none⟩) := by simpa using hp
  simp [results, h, hp', asAddr, run_loadVar_row w g t ty cs fr d hg hu hd hi]

end Go.Proofs.Ytfjbhccapgnkiaa.P
