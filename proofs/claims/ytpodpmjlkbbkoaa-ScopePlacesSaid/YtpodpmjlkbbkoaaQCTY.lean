import Derived.Test.YtpodpmjlkbbkoaaQCTQ
import Derived.Recover
import Derived.Test.YtpodpmjlkbbkoaaQCL10
import Derived.Test.YtpodpmjlkbbkoaaQCTA
set_option linter.all false
namespace Go.Proofs.Ytpodpmjlkbbkoaa.P
open Go.RowKit Go.Proofs.YtpodpmjlkbbkoaaW.PrintWords Go.Proofs.YtpodpmjlkbbkoaaW.PrintLast Go.Proofs.YtpodpmjlkbbkoaaW.PrintMore
variable [Low]
structure AllC (k : Nat) : Prop where
 expr : CN 48 SP.expr k
 casc : CN 64 SP.casc k
 msg : CN 70 SP.msg k
 sent : CS k
 keyed : CB 69 SP.keyed k
 binary : CB 75 SP.binary k
 unary : CB 76 SP.unary k
 prim : CB 80 SP.prim k
 list : CN 82 SP.list k
 elem : CN 86 SP.elem k
 block : CN 83 SP.block k
 body : CBody k
 stmt : CB 33 SP.stmt k
theorem allC (k : Nat) (hk : k ≤ 1073741824) : ∀ j, j ≤ k → AllC j := by
 induction k with
 | zero =>
  intro j hj
  obtain rfl : j = 0 := by omega
  exact {
   expr := fun _ _ _ _ _ _ hr => by simp [SP.expr] at hr
   casc := fun _ _ _ _ _ _ hr => by simp [SP.casc] at hr
   msg := fun _ _ _ _ _ _ hr => by simp [SP.msg] at hr
   sent := fun _ _ _ _ _ _ _ _ _ hr => by simp [SP.sent] at hr
   keyed := fun _ _ _ _ _ _ hr => by simp [SP.keyed] at hr
   binary := fun _ _ _ _ _ _ hr => by simp [SP.binary] at hr
   unary := fun _ _ _ _ _ _ hr => by simp [SP.unary] at hr
   prim := fun _ _ _ _ _ _ hr => by simp [SP.prim] at hr
   list := fun _ _ _ _ _ _ hr => by simp [SP.list] at hr
   elem := fun _ _ _ _ _ _ hr => by simp [SP.elem] at hr
   block := fun _ _ _ _ _ _ hr => by simp [SP.block] at hr
   body := fun _ _ _ _ _ _ _ _ _ _ _ _ _ _ _ _ hr => by simp [SP.body] at hr
   stmt := fun _ _ _ _ _ _ hr => by simp [SP.stmt] at hr
  }
 | succ k ih =>
  have ih := ih (by omega)
  intro j hj
  by_cases hjk : j ≤ k
  ·exact ih j hjk
  obtain rfl : j = k + 1 := by omega
  have h0 := ih k (Nat.le_refl _)
  have hk0 : k ≤ 1073741824 := by omega
  exact {
   expr := tree_expression.step h0.expr h0.casc
   casc := tree_cascade.step (fun j hj => (ih j hj).msg) hk0 h0.keyed
   msg := tree_message.step h0.unary (fun j hj => (ih j hj).binary) hk0
   sent := tree_sent.step h0.msg hk0
   keyed := tree_keyed.step h0.binary (fun j hj => (ih j hj).sent)
   binary := tree_binary.step h0.unary (fun j hj => (ih j hj).sent)
   unary := tree_unary.step h0.prim (fun j hj => (ih j hj).sent)
   prim := tree_primary.step h0.expr h0.list h0.block
   list := tree_list.step (fun j hj => (ih j hj).elem) hk0
   elem := tree_element.step h0.list
   block := tree_block.step h0.body hk0
   body := tree_body.step (fun j hj => (ih j hj).stmt) hk0
   stmt := tree_statement.step h0.expr
  }
end Go.Proofs.Ytpodpmjlkbbkoaa.P
set_option maxHeartbeats 16000000
set_option maxRecDepth 100000
namespace Go.Proofs.Ytpodpmjlkbbkoaa.P
open Go.RowKit Go.Proofs.YtpodpmjlkbbkoaaW.PrintWords Go.Proofs.YtpodpmjlkbbkoaaW.PrintLast Go.Proofs.YtpodpmjlkbbkoaaW.PrintMore
attribute [local go_sem] field64_1 field64_2
theorem unit1_idle (p4 p5 p6 : Addr) (w : World) :
  CallsD Try.prog 19 #[.pointer (some p4), .pointer (some p5), .pointer (some p6)] .returning w fun e u' w' => e = .returned (.tuple #[]) ∧ u' = .returning ∧ w' = w := by
 have hnil : ∀ w : World, (binOp BinOp.eql 20 .nilIface .nilIface).run Try.prog w = .ok (.bool true) w := fun _ => by kernel_rfl
 refine callsD_of_wpS Try.func19 rfl fun c₀ cs hu => ?_
 apply wpS_seq
 apply wpS_region
 simp [wpOpsS, go_sem, recoverD, hu, Try.ntmps19, Exit.thenS]
 refine wpS_of_wp ?_
 go_wp2
 cases c₀
 simp_all [bodyPostS, results, Try.results19]
theorem unit1_stop (g4 g5 g6 : Nat) (at_ why : Int) (older : List PanicEntry) (w : World) (a0 a1 a2 a3 a4 a5 v5 v6 : Value) (h45 : g4 ≠ g5) (h46 : g4 ≠ g6) (h56 : g5 ≠ g6) (h4 : w.heap[g4]? = some (.cells #[a0, a1, a2, a3, a4, a5] 36 (0, 0))) (h5 : w.heap[g5]? = some (.cells #[v5] 3 (0, 0))) (h6 : w.heap[g6]? = some (.cells #[v6] 24 (0, 0))) :
  CallsD Try.prog 19 #[.pointer (some ⟨g4, 0, none⟩), .pointer (some ⟨g5, 0, none⟩), .pointer (some ⟨g6, 0, none⟩)] (.panicking ({ v := .iface 59 (.agg #[.int .i64 at_, .int .i64 why]), recovered := false } :: older)) w fun e u' w' =>
   e = .returned (.tuple #[]) ∧ u' = .panicking ({ v := .iface 59 (.agg #[.int .i64 at_, .int .i64 why]), recovered := true } :: older) ∧ w'.heap[g4]? = some (.cells #[.int .i64 0, .string ⟨#[]⟩, .int .i64 0, .int .i64 0, .slice none 0 0, .slice none 0 0] 36 (0, 0)) ∧ w'.heap[g5]? = some (.cells #[.int .i64 at_] 3 (0, 0)) ∧ w'.heap[g6]? = some (.cells #[.int .i64 why] 24 (0, 0)) ∧ Fr (fun k => k = g4 ∨ k = g5 ∨ k = g6) w w' := by
 have hnil : ∀ w : World, (binOp BinOp.eql 20 (.iface 59 (.agg #[.int .i64 at_, .int .i64 why])) .nilIface).run Try.prog w = .ok (.bool false) w := fun _ => by kernel_rfl
 refine callsD_of_wpS Try.func19 rfl fun c₀ cs hu => ?_
 apply wpS_seq
 apply wpS_region
 simp [wpOpsS, go_sem, recoverD, hu, Try.ntmps19, Exit.thenS]
 have hta : ∀ w : World, (Instr.typeAssert (.iface 59 (.agg #[.int .i64 at_, .int .i64 why])) 20 59 true).run Try.prog w = .ok (.tuple #[.agg #[.int .i64 at_, .int .i64 why], .bool true]) w := fun _ => by kernel_rfl
 refine wpS_of_wp ?_
 change Code.wp Try.prog _ _ { tmps := #[.pointer (some ⟨g4, 0, none⟩), .pointer (some ⟨g5, 0, none⟩), .pointer (some ⟨g6, 0, none⟩), undef, undef, undef, .iface 59 (.agg #[.int .i64 at_, .int .i64 why]), undef, undef, undef, undef, undef, undef, undef, undef, undef, undef], defers := [] } w
 have t := Aside0.mk (Fr.refl (fun k => k = g4 ∨ k = g5 ∨ k = g6) w)
 have c := Aside0.mk h4
 have d := Aside0.mk h5
 have i := Aside0.mk h6
 have Z := Aside0.mk (And.intro h45 (And.intro h46 (And.intro h56 (And.intro (blk_lt h4) (And.intro (blk_lt h5) (And.intro (blk_lt h6) (Nat.le_refl w.heap.size)))))))
 clear h4 h5 h6 h45 h46 h56
 go_wp2_with (first
  | ((with_reducible refine gate_dst (N := 4) rfl ?_); apply boxE 4 #[.int .i64 0, .int .i64 0] 59; intro gs J b j B; replace t := t.f0 j; replace c := c.b0 j; replace d := d.b0 j; replace i := i.b0 j; replace Z := Z.a B; clear B j; have o := c.e6; have p := d.e1; have q := i.e1; have r := b.e2; have A : g6 ≠ g4 ∧ g4 ≠ g6 ∧ g6 ≠ g5 ∧ g5 ≠ g6 ∧ g6 ≠ gs ∧ gs ≠ g6 ∧ g5 ≠ g4 ∧ g4 ≠ g5 ∧ g5 ≠ gs ∧ gs ≠ g5 ∧ g4 ≠ gs ∧ gs ≠ g4 := (by have y := Z.out; omega)))
 have s := b.s2 (.int .i64 at_) (.int .i64 why)
 clear b
 obtain ⟨D, l, j, b⟩ := s
 rw [l]
 clear l
 have y := Z.out
 replace t := t.f1 j (by omega)
 replace c := c.b1 j (by omega)
 replace d := d.b1 j (by omega)
 replace i := i.b1 j (by omega)
 clear y
 replace Z := Z.k j
 clear j
 clear o p q r A
 have o := c.e6
 have p := d.e1
 have q := i.e1
 have r := b.e2
 have A : g6 ≠ g4 ∧ g4 ≠ g6 ∧ g6 ≠ g5 ∧ g5 ≠ g6 ∧ g6 ≠ gs ∧ gs ≠ g6 ∧ g5 ≠ g4 ∧ g4 ≠ g5 ∧ g5 ≠ gs ∧ gs ≠ g5 ∧ g4 ≠ gs ∧ gs ≠ g4 := (by have y := Z.out; omega)
 refine start_ (n := 8) (S := fun w' => (w'.cell? ⟨gs, 0, none⟩ = some (.int .i64 at_)) ∧ (w'.cell? ⟨gs, 1, none⟩ = some (.int .i64 why))) (ds := []) #[false, false, false, false, false, false, false, false] (by kernel_rfl) rfl rfl (show ((World.drew D).cell? ⟨gs, 0, none⟩ = some (.int .i64 at_)) ∧ ((World.drew D).cell? ⟨gs, 1, none⟩ = some (.int .i64 why)) from ⟨(blk_cell b.out 0).trans rfl, (blk_cell b.out 1).trans rfl⟩) (fun m => ?_)
 obtain ⟨I, l⟩ : ∃ W_, W_ = World.drew D := ⟨_, rfl⟩
 rw [← l] at m ⊢
 have j : Fr (fun _ => False) D I := (by rw [l]; exact (Fr.refl _ _).drew)
 replace t := t.f0 j
 replace c := c.b0 j
 replace d := d.b0 j
 replace i := i.b0 j
 replace b := b.b0 j
 replace Z := Z.k j
 clear j l
 clear o p q r A
 apply puA 0 12
 apply puA 1 13
 apply puA 3 15
 apply tkA 2 14 m
 apply tkA 4 16 m
 apply oN 5 none; intro K hK
 have u := c.z
 have x := c.c6
 have s := c.s6 (.int .i64 0) (.string ⟨#[]⟩) (.int .i64 0) (.int .i64 0) (.slice none 0 0) (.slice none 0 0)
 clear c
 obtain ⟨G, l, j, c⟩ := s
 refine skip_ (w1 := G) (by rfl) rfl ?_ ?_
 ·rw [← l]
  clear l
  go_simp
  (try rfl)
 have y := Z.out
 replace t := t.f1 j (by omega)
 replace d := d.b1 j (by omega)
 replace i := i.b1 j (by omega)
 replace b := b.b1 j (by omega)
 clear y
 replace Z := Z.k j
 clear u x l j
 refine hK.out _ _ (show (G.cell? ⟨gs, 0, none⟩ = some (.int .i64 at_)) ∧ (G.cell? ⟨gs, 1, none⟩ = some (.int .i64 why)) from ⟨(blk_cell b.out 0).trans rfl, (blk_cell b.out 1).trans rfl⟩) (fun m => ?_)
 clear hK K
 apply oN 6 none; intro K hK
 have u := d.z
 have x := d.c1
 have s := d.s1 (.int .i64 at_)
 clear d
 obtain ⟨v5, l, j, d⟩ := s
 refine skip_ (w1 := v5) (by rfl) rfl ?_ ?_
 ·rw [← l]
  clear l
  go_simp
  (try rfl)
 have y := Z.out
 replace t := t.f1 j (by omega)
 replace c := c.b1 j (by omega)
 replace i := i.b1 j (by omega)
 replace b := b.b1 j (by omega)
 clear y
 replace Z := Z.k j
 clear u x l j
 refine hK.out _ _ (show (v5.cell? ⟨gs, 0, none⟩ = some (.int .i64 at_)) ∧ (v5.cell? ⟨gs, 1, none⟩ = some (.int .i64 why)) from ⟨(blk_cell b.out 0).trans rfl, (blk_cell b.out 1).trans rfl⟩) (fun m => ?_)
 clear hK K
 apply oN 7 none; intro K hK
 have u := i.z
 have x := i.c1
 have s := i.s1 (.int .i64 why)
 clear i
 obtain ⟨v6, l, j, i⟩ := s
 refine skip_ (w1 := v6) (by rfl) rfl ?_ ?_
 ·rw [← l]
  clear l
  go_simp
  (try rfl)
 have y := Z.out
 replace t := t.f1 j (by omega)
 replace c := c.b1 j (by omega)
 replace d := d.b1 j (by omega)
 replace b := b.b1 j (by omega)
 clear y
 replace Z := Z.k j
 clear u x l j
 refine hK.out _ _ (show (v6.cell? ⟨gs, 0, none⟩ = some (.int .i64 at_)) ∧ (v6.cell? ⟨gs, 1, none⟩ = some (.int .i64 why)) from ⟨(blk_cell b.out 0).trans rfl, (blk_cell b.out 1).trans rfl⟩) (fun m => ?_)
 clear hK K
 refine done_ (by kernel_rfl) ?_
 go_wp2
 simp [bodyPostS, results, Try.results19]
 exact ⟨c.out, d.out, i.out, t.out⟩
theorem results_c3 {P : Program} {fn : Func} {p q r : Tmp} {t1 t2 t3 : TypeId} (h : fn.results = #[.cell p t1, .cell q t2, .cell r t3]) (tmps : Array Value) (w : World) (g1 g2 g3 : Nat) (y1 y2 y3 : TypeId) (cs : Array Value) (v2 v3 : Value) (d : TypeDesc)
  (hp : tmps.getD p undef = .pointer (some ⟨g1, 0, none⟩)) (hq : tmps.getD q undef = .pointer (some ⟨g2, 0, none⟩)) (hr : tmps.getD r undef = .pointer (some ⟨g3, 0, none⟩)) (h1 : w.heap[g1]? = some (.cells cs y1 (0, 0))) (h2 : w.heap[g2]? = some (.cells #[v2] y2 (0, 0))) (h3 : w.heap[g3]? = some (.cells #[v3] y3 (0, 0)))
  (hu : P.underlying t1 = some d) (hd : (match d with | .struct _ | .array _ _ => true | _ => false) = true) (hi : (P.info? t1).map (·.size) = some cs.size)
  (e2 : (loadVar t2 ⟨g2, 0, none⟩).run P w = .ok v2 w) (e3 : (loadVar t3 ⟨g3, 0, none⟩).run P w = .ok v3 w) :
  (results fn tmps).run P w = .ok (.tuple #[.agg cs, v2, v3]) w := by
 have hp' : tmps[p]?.getD undef = .pointer (some ⟨g1, 0, none⟩) := by simpa using hp
 have hq' : tmps[q]?.getD undef = .pointer (some ⟨g2, 0, none⟩) := by simpa using hq
 have hr' : tmps[r]?.getD undef = .pointer (some ⟨g3, 0, none⟩) := by simpa using hr
 simp [results, h, hp', hq', hr', asAddr, run_loadVar_row w g1 y1 t1 cs (0, 0) d h1 hu hd hi, e2, e3]
theorem ld1 {w : World} {g : Nat} {t : TypeId} {x : Int} (ht : t = 3 ∨ t = 24) (h : w.heap[g]? = some (.cells #[.int .i64 x] t (0, 0))) : (loadVar t ⟨g, 0, none⟩).run Try.prog w = .ok (.int .i64 x) w := by
 have hc := (blk_cell h 0).trans rfl
 rcases ht with rfl | rfl <;> go_simp
theorem Q_new {α : Type} {d : Kd α} {e : Nat} {w : World} {b : Nat} {v : Value} {xs : List α} (h : d.R e w b (fun _ => True) v xs) : d.Q e w 0 (fun k => b ≤ k ∧ k < w.heap.size) v xs := Kd.Q_lower (Kd.Q_mono (Kd.Q_bound (Kd.Q_of_R h)) (fun k hk => ⟨hk.2.1, hk.2.2.1⟩)) (Nat.zero_le _)
theorem tree_unit.nowords {s : ByteArray} {p0 e0 : Int} {toks : List S28} (w : World) (fv : Value) (hlex : ∀ w, Calls Try.prog 18 #[.string s] w fun e w' => ∃ v0_ : Value, e = .returned (.tuple #[v0_, .int .i64 p0, .int .i64 e0]) ∧ Kd.R k28 64 w' w.heap.size (fun _ => True) v0_ toks ∧ Below w.heap.size w w') (he : (e0 != 0) = true) :
  Calls Try.prog 13 #[.string s, fv] w fun e w' => ∃ v, e = .returned (.tuple #[v, .int .i64 p0, .int .i64 e0]) ∧ NV (fun q => w.heap.size ≤ q) w' zNd v ∧ Below w.heap.size w w' := by
 have hu36 := Try.underlying36
 have u := Aside0.mk (Fr.refl (fun k => w.heap.size ≤ k) w)
 have Z := Aside0.mk (Nat.le_refl w.heap.size)
 go_enter_defers Try.func13, Try.ntmps13
 go_wp2_with (first
  | ((with_reducible refine gate_dst (N := 4) rfl ?_); apply boxE 4 #[.int .i64 0, .string ⟨#[]⟩, .int .i64 0, .int .i64 0, .slice none 0 0, .slice none 0 0] 36; intro x C c i B; replace u := u.f0 i; replace Z := Z.a B; clear B i; have j := c.e6)
  | ((with_reducible refine gate_dst (N := 5) rfl ?_); apply boxE 5 #[.int .i64 0] 3; intro r E b i B; replace u := u.f0 i; replace c := c.b0 i; replace Z := Z.a B; clear B i; clear j; have j := c.e6; have m := b.e1; have y : r ≠ x ∧ x ≠ r := (by have D := Z.out; omega))
  | ((with_reducible refine gate_dst (N := 6) rfl ?_); apply boxE 6 #[.int .i64 0] 24; intro t W d i B; replace u := u.f0 i; replace c := c.b0 i; replace b := b.b0 i; replace Z := Z.a B; clear B i; clear j m y; have j := c.e6; have m := b.e1; have o := d.e1; have y : t ≠ x ∧ x ≠ t ∧ t ≠ r ∧ r ≠ t ∧ r ≠ x ∧ x ≠ r := (by have D := Z.out; omega))
  | ((with_reducible refine gate_dst (N := 11) rfl ?_); apply goE 11 Try.func18 (hlex W); rintro F Y ⟨v0_, rfl, hr_, M⟩; refine Or.inl ⟨_, rfl, ?_⟩; obtain ⟨AT, cT, rfl⟩ := Kd.R_slice hr_; have i : Fr (fun _ => False) W Y := Fr.of_below M; replace u := u.f0 i; replace c := c.b0 i; replace b := b.b0 i; replace d := d.b0 i; replace Z := Z.k i; clear i hr_ M; clear j m o y; have j := c.e6; have m := b.e1; have o := d.e1; have y : t ≠ x ∧ x ≠ t ∧ t ≠ r ∧ r ≠ t ∧ r ≠ x ∧ x ≠ r := (by have D := Z.out; omega)))
 have A := b.s1 (.int .i64 p0)
 clear b
 obtain ⟨H, l, i, b⟩ := A
 rw [l]
 clear l
 have D := Z.out
 replace u := u.f1 i (by omega)
 replace c := c.b1 i (by omega)
 replace d := d.b1 i (by omega)
 clear D
 replace Z := Z.k i
 clear i
 clear j m o y
 have j := c.e6
 have m := b.e1
 have o := d.e1
 have y : t ≠ x ∧ x ≠ t ∧ t ≠ r ∧ r ≠ t ∧ r ≠ x ∧ x ≠ r := (by have D := Z.out; omega)
 have A := d.s1 (.int .i64 e0)
 clear d
 obtain ⟨O, l, i, d⟩ := A
 rw [l]
 clear l
 have D := Z.out
 replace u := u.f1 i (by omega)
 replace c := c.b1 i (by omega)
 replace b := b.b1 i (by omega)
 clear D
 replace Z := Z.k i
 clear i
 clear j m o y
 have j := c.e6
 have m := b.e1
 have o := d.e1
 have y : t ≠ x ∧ x ≠ t ∧ t ≠ r ∧ r ≠ t ∧ r ≠ x ∧ x ≠ r := (by have D := Z.out; omega)
 refine wp_region_noPanic ?_
 refine start_ (n := 6) (S := fun w' => (w'.cell? ⟨r, 0, none⟩ = some (.int .i64 p0)) ∧ (w'.cell? ⟨t, 0, none⟩ = some (.int .i64 e0))) (ds := []) #[false, false, false, false, false, false] (by kernel_rfl) rfl rfl (show ((World.drew O).cell? ⟨r, 0, none⟩ = some (.int .i64 p0)) ∧ ((World.drew O).cell? ⟨t, 0, none⟩ = some (.int .i64 e0)) from ⟨(blk_cell b.out 0).trans rfl, (blk_cell d.out 0).trans rfl⟩) (fun p => ?_)
 obtain ⟨X, l⟩ : ∃ W_, W_ = World.drew O := ⟨_, rfl⟩
 rw [← l] at p ⊢
 have i : Fr (fun _ => False) O X := (by rw [l]; exact (Fr.refl _ _).drew)
 replace u := u.f0 i
 replace c := c.b0 i
 replace b := b.b0 i
 replace d := d.b0 i
 replace Z := Z.k i
 clear i l
 clear j m o y
 apply puA 0 17
 apply tkA 1 18 p
 apply tkA 2 19 p
 apply oN 3 none; intro K hK
 have G := c.z
 have I := c.c6
 have A := c.s6 (.int .i64 0) (.string ⟨#[]⟩) (.int .i64 0) (.int .i64 0) (.slice none 0 0) (.slice none 0 0)
 clear c
 obtain ⟨U, l, i, c⟩ := A
 refine skip_ (w1 := U) (by rfl) rfl ?_ ?_
 ·rw [← l]
  clear l
  go_simp
  (try rfl)
 have D := Z.out
 replace u := u.f1 i (by omega)
 replace b := b.b1 i (by omega)
 replace d := d.b1 i (by omega)
 clear D
 replace Z := Z.k i
 clear G I l i
 refine hK.out _ _ (show (U.cell? ⟨r, 0, none⟩ = some (.int .i64 p0)) ∧ (U.cell? ⟨t, 0, none⟩ = some (.int .i64 e0)) from ⟨(blk_cell b.out 0).trans rfl, (blk_cell d.out 0).trans rfl⟩) (fun p => ?_)
 clear hK K
 apply oN 4 none; intro K hK
 have G := b.z
 have I := b.c1
 have A := b.s1 (.int .i64 p0)
 clear b
 obtain ⟨V, l, i, b⟩ := A
 refine skip_ (w1 := V) (by rfl) rfl ?_ ?_
 ·rw [← l]
  clear l
  go_simp
  (try rfl)
 have D := Z.out
 replace u := u.f1 i (by omega)
 replace c := c.b1 i (by omega)
 replace d := d.b1 i (by omega)
 clear D
 replace Z := Z.k i
 clear G I l i
 refine hK.out _ _ (show (V.cell? ⟨r, 0, none⟩ = some (.int .i64 p0)) ∧ (V.cell? ⟨t, 0, none⟩ = some (.int .i64 e0)) from ⟨(blk_cell b.out 0).trans rfl, (blk_cell d.out 0).trans rfl⟩) (fun p => ?_)
 clear hK K
 apply oN 5 none; intro K hK
 have G := d.z
 have I := d.c1
 have A := d.s1 (.int .i64 e0)
 clear d
 obtain ⟨J, l, i, d⟩ := A
 refine skip_ (w1 := J) (by rfl) rfl ?_ ?_
 ·rw [← l]
  clear l
  go_simp
  (try rfl)
 have D := Z.out
 replace u := u.f1 i (by omega)
 replace c := c.b1 i (by omega)
 replace b := b.b1 i (by omega)
 clear D
 replace Z := Z.k i
 clear G I l i
 refine hK.out _ _ (show (J.cell? ⟨r, 0, none⟩ = some (.int .i64 p0)) ∧ (J.cell? ⟨t, 0, none⟩ = some (.int .i64 e0)) from ⟨(blk_cell b.out 0).trans rfl, (blk_cell d.out 0).trans rfl⟩) (fun p => ?_)
 clear hK K
 refine done_ (by kernel_rfl) ?_
 refine NoPanic.normal ?_
 go_wp2
 exact ⟨_, results_c3 rfl _ _ x r t 36 3 24 _ _ _ _ rfl rfl rfl c.out b.out d.out hu36 rfl rfl (ld1 (Or.inl rfl) b.out) (ld1 (Or.inr rfl) d.out), _, rfl, ⟨_, _, rfl, NQ.none_ _ _ _ _ _ _⟩, u.out.below (Below.refl _ _) (fun k h => h) (Nat.le_refl _)⟩
def UnitA (r : Except (Int × Int) (SP.Nd × List S28)) (w : World) (e : Ending) (w' : World) : Prop := match r with
 | .error x => ∃ v, e = .returned (.tuple #[v, .int .i64 x.1, .int .i64 x.2]) ∧ NV (fun q => w.heap.size ≤ q) w' zNd v ∧ Below w.heap.size w w'
 | .ok x => ∃ v, e = .returned (.tuple #[v, .int .i64 0, .int .i64 0]) ∧ NV (fun q => w.heap.size ≤ q) w' x.1 v ∧ Below w.heap.size w w'
def HeadC [Low] (F : FuncId) (r1 : Except (Int × Int) ((ByteArray × List ByteArray) × List S28)) (toks : List S28) : Prop := ∀ (B pb gn : Nat) (w : World), PS B w pb toks 0 → (gn < Low.lo ∨ B ≤ gn) → w.heap[gn]? = some (.cells #[.int .i64 12, .string ⟨#[]⟩, .int .i64 0, .int .i64 0, .slice none 0 0, .slice none 0 0] 36 (0, 0)) →
  Calls Try.prog F #[.pointer (some ⟨pb, 0, none⟩), .pointer (some ⟨gn, 0, none⟩)] w (AnsN r1 B pb gn 0 (fun k => k = pb ∨ k = gn) w (fun ta w' => ∃ An cn, w'.heap[gn]? = some (.cells #[.int .i64 12, .string ta.1, .int .i64 0, .int .i64 ta.2.length, .slice An ta.2.length cn, .slice none 0 0] 36 (0, 0)) ∧ Kd.string.Q 9 w' 0 (fun k => w.heap.size ≤ k ∧ k ≠ gn) (.slice An ta.2.length cn) ta.2))
theorem unit_stop {R : Ending → World → Prop} {tmps : Array Value} {w : World} {g4 g5 g6 : Nat} {at_ why : Int} {a0 a1 a2 a3 a4 a5 v5 v6 : Value} (t4 : tmps.getD 4 undef = .pointer (some ⟨g4, 0, none⟩)) (t5 : tmps.getD 5 undef = .pointer (some ⟨g5, 0, none⟩)) (t6 : tmps.getD 6 undef = .pointer (some ⟨g6, 0, none⟩))
  (hn : g4 ≠ g5 ∧ g4 ≠ g6 ∧ g5 ≠ g6) (h4 : w.heap[g4]? = some (.cells #[a0, a1, a2, a3, a4, a5] 36 (0, 0))) (h5 : w.heap[g5]? = some (.cells #[v5] 3 (0, 0))) (h6 : w.heap[g6]? = some (.cells #[v6] 24 (0, 0)))
  (hR : ∀ w', Fr (fun k => k = g4 ∨ k = g5 ∨ k = g6) w w' → R (.returned (.tuple #[.agg #[.int .i64 0, .string ⟨#[]⟩, .int .i64 0, .int .i64 0, .slice none 0 0, .slice none 0 0], .int .i64 at_, .int .i64 why])) w') :
  Leaves Try.prog Proofs.Try.f13 tmps R [{ target := .fn (.func 19) #[.pointer (some ⟨g4, 0, none⟩), .pointer (some ⟨g5, 0, none⟩), .pointer (some ⟨g6, 0, none⟩)], args := #[] }] (.panicking (stopOf at_ why)) w := by
 refine leaves_cons (f := 19) (args := #[.pointer (some ⟨g4, 0, none⟩), .pointer (some ⟨g5, 0, none⟩), .pointer (some ⟨g6, 0, none⟩)]) (by simp) (by simp [go_sem]) ?_
 refine (unit1_stop g4 g5 g6 at_ why [] w a0 a1 a2 a3 a4 a5 v5 v6 hn.1 hn.2.1 hn.2.2 h4 h5 h6).mono ?_
 rintro e u' w'' ⟨rfl, rfl, k4, k5, k6, hF⟩
 exact ⟨_, results_c3 rfl _ _ g4 g5 g6 36 3 24 _ _ _ _ t4 t5 t6 k4 k5 k6 Try.underlying36 rfl rfl (ld1 (Or.inl rfl) k5) (ld1 (Or.inr rfl) k6), hR _ hF⟩
theorem unit_idle {R : Ending → World → Prop} {tmps : Array Value} {w : World} {g4 g5 g6 : Nat} {a0 a1 a2 a3 a4 a5 : Value} {p e : Int} (t4 : tmps.getD 4 undef = .pointer (some ⟨g4, 0, none⟩)) (t5 : tmps.getD 5 undef = .pointer (some ⟨g5, 0, none⟩)) (t6 : tmps.getD 6 undef = .pointer (some ⟨g6, 0, none⟩))
  (h4 : w.heap[g4]? = some (.cells #[a0, a1, a2, a3, a4, a5] 36 (0, 0))) (h5 : w.heap[g5]? = some (.cells #[.int .i64 p] 3 (0, 0))) (h6 : w.heap[g6]? = some (.cells #[.int .i64 e] 24 (0, 0)))
  (hR : R (.returned (.tuple #[.agg #[a0, a1, a2, a3, a4, a5], .int .i64 p, .int .i64 e])) w) :
  Leaves Try.prog Proofs.Try.f13 tmps R [{ target := .fn (.func 19) #[.pointer (some ⟨g4, 0, none⟩), .pointer (some ⟨g5, 0, none⟩), .pointer (some ⟨g6, 0, none⟩)], args := #[] }] .returning w := by
 refine leaves_cons (f := 19) (args := #[.pointer (some ⟨g4, 0, none⟩), .pointer (some ⟨g5, 0, none⟩), .pointer (some ⟨g6, 0, none⟩)]) (by simp) (by simp [go_sem]) ?_
 refine (unit1_idle _ _ _ w).mono ?_
 rintro e u' w'' ⟨rfl, rfl, rfl⟩
 exact ⟨_, results_c3 rfl _ _ g4 g5 g6 36 3 24 _ _ _ _ t4 t5 t6 h4 h5 h6 Try.underlying36 rfl rfl (ld1 (Or.inl rfl) h5) (ld1 (Or.inr rfl) h6), hR⟩
theorem unitA_err {x : Int × Int} {w w' : World} (h : Below w.heap.size w w') : UnitA (.error x) w (.returned (.tuple #[.agg #[.int .i64 0, .string ⟨#[]⟩, .int .i64 0, .int .i64 0, .slice none 0 0, .slice none 0 0], .int .i64 x.1, .int .i64 x.2])) w' := ⟨_, rfl, ⟨_, _, rfl, NQ.none_ _ _ _ _ _ _⟩, h⟩
theorem unitA_ok {x : SP.Nd} {l : List S28} {w w' : World} {nv kv : Value} (hq : NQ (fun q => w.heap.size ≤ q) w' x nv kv) (h : Below w.heap.size w w') : UnitA (.ok (x, l)) w (.returned (.tuple #[.agg #[.int .i64 x.kind, .string x.text, .int .i64 x.place, .int .i64 x.n, nv, kv], .int .i64 0, .int .i64 0])) w' := ⟨_, rfl, ⟨_, _, rfl, hq⟩, h⟩
theorem tree_unit.calls0 {s : ByteArray} {p0 e0 : Int} {toks : List S28} {k : Nat} {F : FuncId} {fn : Func} {r1 : Except (Int × Int) ((ByteArray × List ByteArray) × List S28)} {r : Except (Int × Int) (SP.Nd × List S28)} (w : World) (hlex : ∀ w, Calls Try.prog 18 #[.string s] w fun e w' => ∃ v0_ : Value, e = .returned (.tuple #[v0_, .int .i64 p0, .int .i64 e0]) ∧ Kd.R k28 64 w' w.heap.size (fun _ => True) v0_ toks ∧ Below w.heap.size w w') (he : (e0 != 0) = false) (htx : ∀ t, t ∈ toks → t.f1.size ≤ 4096) (hln : toks.length ≤ 1073741824)
  (hF : Try.prog.funcs[F]? = some fn) (hFn : (fn.name == "runtime.NumGoroutine") = false) (hFb : fn.body.isSome = true) (hhead : ∀ L : Low, HeadC F r1 toks) (hbody : ∀ L : Low, CBody k) (hl1 : ∀ ta l2, r1 = .ok (ta, l2) → ta.2.length + l2.length ≤ 1073741824)
  (hr : SP.bind (some r1) (fun ta l2 => SP.bind (SP.body k 0 0 l2 ta.2) fun nk l3 => SP.ret (.mk 12 ta.1 0 ta.2.length nk.1 nk.2) l3) = some r) :
  Calls Try.prog 13 #[.string s, .func (.func F) #[] #[]] w (UnitA r w) := by
 have H := Aside0.mk hr
 have Y := Aside0.mk hl1
 clear hr hl1
 have hu36 := Try.underlying36
 have hmf : ∀ (fn : Fn) (first cap : Array Value) (w : World), (Instr.makeFunc fn first cap).run Try.prog w = .ok (.func fn first cap) w := fun _ _ _ _ => rfl
 have x := Aside0.mk (Fr.refl (fun k => w.heap.size ≤ k) w)
 have Z := Aside0.mk (Nat.le_refl w.heap.size)
 go_enter_defers Try.func13, Try.ntmps13
 go_wp2_with (first
  | ((with_reducible refine gate_dst (N := 4) rfl ?_); apply boxE 4 #[.int .i64 0, .string ⟨#[]⟩, .int .i64 0, .int .i64 0, .slice none 0 0, .slice none 0 0] 36; intro n v1 b l y; replace x := x.f0 l; replace Z := Z.a y; clear y l; have i := b.e6)
  | ((with_reducible refine gate_dst (N := 5) rfl ?_); apply boxE 5 #[.int .i64 0] 3; intro o v2 c l y; replace x := x.f0 l; replace b := b.b0 l; replace Z := Z.a y; clear y l; clear i; have i := b.e6; have j := c.e1; have u : o ≠ n ∧ n ≠ o := (by have q := Z.out; omega))
  | ((with_reducible refine gate_dst (N := 6) rfl ?_); apply boxE 6 #[.int .i64 0] 24; intro p X d l y; replace x := x.f0 l; replace b := b.b0 l; replace c := c.b0 l; replace Z := Z.a y; clear y l; clear i j u; have i := b.e6; have j := c.e1; have m := d.e1; have u : p ≠ n ∧ n ≠ p ∧ p ≠ o ∧ o ≠ p ∧ o ≠ n ∧ n ≠ o := (by have q := Z.out; omega))
  | ((with_reducible refine gate_dst (N := 11) rfl ?_); apply goE 11 Try.func18 (hlex X); rintro K S ⟨v0_, rfl, hr_, G⟩; refine Or.inl ⟨_, rfl, ?_⟩; obtain ⟨AT, cT, rfl⟩ := Kd.R_slice hr_; have l : Fr (fun _ => False) X S := Fr.of_below G; replace x := x.f0 l; replace b := b.b0 l; replace c := c.b0 l; replace d := d.b0 l; replace Z := Z.k l; have QT := Aside0.mk (Q_new hr_); clear l hr_ G; clear i j m u; have i := b.e6; have j := c.e1; have m := d.e1; have u : p ≠ n ∧ n ≠ p ∧ p ≠ o ∧ o ≠ p ∧ o ≠ n ∧ n ≠ o := (by have q := Z.out; omega))
  | ((with_reducible refine gate_dst (N := 23) rfl ?_); have z := c.s1 (.int .i64 p0); clear c; obtain ⟨v5, v, l, c⟩ := z; rw [v]; clear v; have q := Z.out; replace x := x.f1 l (by omega); replace b := b.b1 l (by omega); replace d := d.b1 l (by omega); replace QT := QT.q1 l (fun k hk => by omega); clear q; replace Z := Z.k l; clear l; clear i j m u; have i := b.e6; have j := c.e1; have m := d.e1; have u : p ≠ n ∧ n ≠ p ∧ p ≠ o ∧ o ≠ p ∧ o ≠ n ∧ n ≠ o := (by have q := Z.out; omega); have z := d.s1 (.int .i64 e0); clear d; obtain ⟨v6, v, l, d⟩ := z; rw [v]; clear v; have q := Z.out; replace x := x.f1 l (by omega); replace b := b.b1 l (by omega); replace c := c.b1 l (by omega); replace QT := QT.q1 l (fun k hk => by omega); clear q; replace Z := Z.k l; clear l; clear i j m u; have i := b.e6; have j := c.e1; have m := d.e1; have u : p ≠ n ∧ n ≠ p ∧ p ≠ o ∧ o ≠ p ∧ o ≠ n ∧ n ≠ o := (by have q := Z.out; omega); apply boxE 23 #[.slice AT toks.length cT, .int .i64 0] 61; intro pb T J l y; replace x := x.f0 l; replace b := b.b0 l; replace c := c.b0 l; replace d := d.b0 l; replace QT := QT.q0 l; replace Z := Z.a y; clear y l; clear i j m u; have i := b.e6; have j := c.e1; have m := d.e1; have V := J.c2; have u : p ≠ n ∧ n ≠ p ∧ p ≠ o ∧ o ≠ p ∧ p ≠ pb ∧ pb ≠ p ∧ o ≠ n ∧ n ≠ o ∧ o ≠ pb ∧ pb ≠ o ∧ n ≠ pb ∧ pb ≠ n := (by have q := Z.out; omega))
  | ((with_reducible refine gate_dst (N := 27) rfl ?_); obtain ⟨LI_, hlo_⟩ : ∃ L : Low, L.lo = X.heap.size := ⟨⟨_⟩, rfl⟩; replace Z := Aside0.mk (And.intro hlo_ Z.out); clear hlo_; have I := Aside0.mk (show PS (pb + 1) T pb toks 0 from ⟨Nat.lt_succ_self _, by have q := Z.out; omega, Int.le_refl 0, by decide, ⟨htx, hln, by have q := Z.out; omega⟩, _, _, J.out, Q_mono' QT.out (fun k a0 _ => by have q := Z.out; exact ⟨by omega, by omega, by omega⟩)⟩); clear J QT; clear V; have z := b.s6 (.int .i64 12) (.string ⟨#[]⟩) (.int .i64 0) (.int .i64 0) (.slice none 0 0) (.slice none 0 0); clear b; obtain ⟨B, v, l, b⟩ := z; rw [v]; clear v; have q := Z.out; replace x := x.f1 l (by omega); replace c := c.b1 l (by omega); replace d := d.b1 l (by omega); replace I := I.p1 l (by omega); clear q; replace Z := Z.k l; clear l; clear i j m u; have i := b.e6; have j := c.e1; have m := d.e1; have u : p ≠ n ∧ n ≠ p ∧ p ≠ o ∧ o ≠ p ∧ o ≠ n ∧ n ≠ o := (by have q := Z.out; omega); refine goesV_ (some 27) rfl rfl (fn := fn) hF hFn hFb (.tmp 25) #[] #[] #[.pointer (some ⟨pb, 0, none⟩), .pointer (some ⟨n, 0, none⟩)] rfl rfl (by (try simp only [List.map_toArray, List.map_cons, List.map_nil]); first | done | rfl) ?_; refine (hhead _ (pb + 1) pb n B I.out (by have q := Z.out; omega) b.out).mono ?_; rintro K C M; rcases r1 with x_ | ⟨ta, l2⟩; (obtain ⟨rfl, l, b0, b1, b2, b3, b4, b5, hbx_⟩ := M; obtain rfl : r = Except.error x_ := (Option.some.inj H.out).symm; exact Or.inr ⟨_, rfl, unit_stop rfl rfl rfl (by have q := Z.out; omega) hbx_ (l.blk c.out (show ¬ (o = pb ∨ o = n) from by have q := Z.out; omega)) (l.blk d.out (show ¬ (p = pb ∨ p = n) from by have q := Z.out; omega)) (fun w' W => unitA_err (((x.out.then_ l (fun k (hk : k = pb ∨ k = n) => .inl (show w.heap.size ≤ k from by have q := Z.out; omega))).then_ W (fun k (hk : k = n ∨ k = o ∨ k = p) => .inl (show w.heap.size ≤ k from by have q := Z.out; omega))).below (Below.refl _ _) (fun k h => h) (Nat.le_refl _)))⟩); obtain ⟨rfl, ⟨An, cn, hbx_, hqn_⟩, D, l⟩ := M; refine Or.inl ⟨_, rfl, ?_⟩; replace I := Aside0.mk D; replace b := Aside0.mk hbx_; have P := Aside0.mk hqn_; have H1_ : SP.bind (SP.body k 0 0 l2 ta.2) (fun nk l3 => SP.ret (.mk 12 ta.1 0 ta.2.length nk.1 nk.2) l3) = some r := H.out; obtain ⟨rb, G⟩ := bind_none H1_; rw [G] at H1_; replace H := Aside0.mk H1_; have Q := Aside0.mk G; clear D hbx_ hqn_ H1_ G; have q := Z.out; replace x := Aside0.mk (x.out.then_ l (fun k (hk : (k = pb ∨ k = n)) => (show (w.heap.size ≤ k) ∨ w.heap.size ≤ k from by omega))); replace c := Aside0.mk (l.blk c.out (show ¬ ((o = pb ∨ o = n)) from by omega)); replace d := Aside0.mk (l.blk d.out (show ¬ ((p = pb ∨ p = n)) from by omega)); clear q; replace Z := Z.k l; clear l; clear i j m u; have i := b.e6; have j := c.e1; have m := d.e1; have u : p ≠ n ∧ n ≠ p ∧ p ≠ o ∧ o ≠ p ∧ o ≠ n ∧ n ≠ o := (by have q := Z.out; omega))
  | ((with_reducible refine gate_dst (N := 29) rfl ?_); apply goE 29 Try.func20 (hbody _ (pb + 1) pb n 0 0 l2 ta.2 (fun k => B.heap.size ≤ k ∧ k ≠ n) rb C _ _ _ _ An cn Q.out I.out (Or.inl (by have q := Z.out; omega)) b.out P.out (fun k (hk : B.heap.size ≤ k ∧ k ≠ n) => (show pb + 1 ≤ k ∧ k ≠ n from by have q := Z.out; omega)) (Y.out _ _ rfl) (by decide)); rintro K E M; rcases rb with x_ | ⟨nk, l3⟩; (obtain ⟨rfl, l, b0, b1, b2, b3, b4, b5, hbx_⟩ := M; obtain rfl : r = Except.error x_ := (Option.some.inj H.out).symm; exact Or.inr ⟨_, rfl, unit_stop rfl rfl rfl (by have q := Z.out; omega) hbx_ (l.blk c.out (show ¬ (o = pb ∨ o = n ∨ (B.heap.size ≤ o ∧ o ≠ n)) from by have q := Z.out; omega)) (l.blk d.out (show ¬ (p = pb ∨ p = n ∨ (B.heap.size ≤ p ∧ p ≠ n)) from by have q := Z.out; omega)) (fun w' W => unitA_err (((x.out.then_ l (fun k (hk : k = pb ∨ k = n ∨ (B.heap.size ≤ k ∧ k ≠ n)) => .inl (show w.heap.size ≤ k from by have q := Z.out; omega))).then_ W (fun k (hk : k = n ∨ k = o ∨ k = p) => .inl (show w.heap.size ≤ k from by have q := Z.out; omega))).below (Below.refl _ _) (fun k h => h) (Nat.le_refl _)))⟩); obtain ⟨rfl, ⟨An2, cn2, Ak, ck, hbx_, O, U⟩, D, l⟩ := M; refine Or.inl ⟨_, rfl, ?_⟩; replace b := Aside0.mk hbx_; clear I P Q; obtain rfl : r = _ := (Option.some.inj H.out).symm; have A := Aside0.mk (show NQ (fun k => B.heap.size ≤ k ∧ k ≠ n) E (.mk 12 ta.1 0 ta.2.length nk.1 nk.2) (.slice An2 nk.1.length cn2) (.slice Ak nk.2.length ck) from ⟨Q_mono' O (fun k hk _ => (show B.heap.size ≤ k ∧ k ≠ n from by have hk2 : ((B.heap.size ≤ k ∧ k ≠ n) ∨ C.heap.size ≤ k) ∧ k ≠ n := hk; have q := Z.out; omega)), Q_mono' U (fun k hk _ => (show B.heap.size ≤ k ∧ k ≠ n from by have hk2 : C.heap.size ≤ k ∧ k ≠ n := hk; have q := Z.out; omega))⟩); clear D hbx_ O U; have q := Z.out; replace x := Aside0.mk (x.out.then_ l (fun k (hk : (k = pb ∨ k = n ∨ (B.heap.size ≤ k ∧ k ≠ n))) => (show (w.heap.size ≤ k) ∨ w.heap.size ≤ k from by omega))); replace c := Aside0.mk (l.blk c.out (show ¬ ((o = pb ∨ o = n ∨ (B.heap.size ≤ o ∧ o ≠ n))) from by omega)); replace d := Aside0.mk (l.blk d.out (show ¬ ((p = pb ∨ p = n ∨ (B.heap.size ≤ p ∧ p ≠ n))) from by omega)); clear q; replace Z := Z.k l; clear l; clear i j m u; have i := b.e6; have j := c.e1; have m := d.e1; have u : p ≠ n ∧ n ≠ p ∧ p ≠ o ∧ o ≠ p ∧ o ≠ n ∧ n ≠ o := (by have q := Z.out; omega)))
 have z := b.s6 (.int .i64 12) (.string ta.1) (.int .i64 0) (.int .i64 (ta.2.length : Int)) (.slice An2 nk.1.length cn2) (.slice Ak nk.2.length ck)
 clear b
 obtain ⟨a1, v, l, b⟩ := z
 rw [v]
 clear v
 have q := Z.out
 replace x := x.f1 l (by omega)
 replace c := c.b1 l (by omega)
 replace d := d.b1 l (by omega)
 replace A := A.n1 l (fun k hk => by omega)
 clear q
 replace Z := Z.k l
 clear l
 clear i j m u
 have i := b.e6
 have j := c.e1
 have m := d.e1
 have u : p ≠ n ∧ n ≠ p ∧ p ≠ o ∧ o ≠ p ∧ o ≠ n ∧ n ≠ o := (by have q := Z.out; omega)
 have z := c.s1 (.int .i64 0)
 clear c
 obtain ⟨a2, v, l, c⟩ := z
 rw [v]
 clear v
 have q := Z.out
 replace x := x.f1 l (by omega)
 replace b := b.b1 l (by omega)
 replace d := d.b1 l (by omega)
 replace A := A.n1 l (fun k hk => by omega)
 clear q
 replace Z := Z.k l
 clear l
 clear i j m u
 have i := b.e6
 have j := c.e1
 have m := d.e1
 have u : p ≠ n ∧ n ≠ p ∧ p ≠ o ∧ o ≠ p ∧ o ≠ n ∧ n ≠ o := (by have q := Z.out; omega)
 have z := d.s1 (.int .i64 0)
 clear d
 obtain ⟨a3, v, l, d⟩ := z
 rw [v]
 clear v
 have q := Z.out
 replace x := x.f1 l (by omega)
 replace b := b.b1 l (by omega)
 replace c := c.b1 l (by omega)
 replace A := A.n1 l (fun k hk => by omega)
 clear q
 replace Z := Z.k l
 clear l
 clear i j m u
 have i := b.e6
 have j := c.e1
 have m := d.e1
 have u : p ≠ n ∧ n ≠ p ∧ p ≠ o ∧ o ≠ p ∧ o ≠ n ∧ n ≠ o := (by have q := Z.out; omega)
 exact unit_idle rfl rfl rfl b.out c.out d.out (unitA_ok (A.out.mono (fun k hk _ => by have hk2 : B.heap.size ≤ k ∧ k ≠ n := hk; have q := Z.out; omega)) (x.out.below (Below.refl _ _) (fun k h => h) (Nat.le_refl _)))
end Go.Proofs.Ytpodpmjlkbbkoaa.P
set_option maxHeartbeats 16000000
set_option maxRecDepth 100000
namespace Go.Proofs.Ytpodpmjlkbbkoaa.P
open Go.RowKit Go.Proofs.YtpodpmjlkbbkoaaW.PrintWords Go.Proofs.YtpodpmjlkbbkoaaW.PrintLast Go.Proofs.YtpodpmjlkbbkoaaW.PrintMore
def NodeA (x : SP.Nd) (p y : Int) (w : World) (e : Ending) (w' : World) : Prop := ∃ v, e = .returned (.tuple #[v, .int .i64 p, .int .i64 y]) ∧ NV (fun q => w.heap.size ≤ q) w' x v ∧ Below w.heap.size w w'
def unitR : Except (Int × Int) (SP.Nd × List S28) → SP.Nd × Int × Int
 | .error x => (zNd, x.1, x.2)
 | .ok x => (x.1, 0, 0)
theorem UnitA.node {r : Except (Int × Int) (SP.Nd × List S28)} {w w' : World} {e : Ending} (h : UnitA r w e w') : NodeA (unitR r).1 (unitR r).2.1 (unitR r).2.2 w e w' := by
 rcases r with x | x <;> exact h
theorem results_ctt {P : Program} {fn : Func} {p u v : Tmp} {ty : TypeId} (h : fn.results = #[.cell p ty, .tmp u, .tmp v]) (tmps : Array Value) (w : World) (g : Nat) (t : TypeId) (cs : Array Value) (fr : Nat × Nat) (d : TypeDesc)
  (hp : tmps.getD p undef = .pointer (some ⟨g, 0, none⟩)) (hg : w.heap[g]? = some (.cells cs t fr))
  (hu : P.underlying ty = some d) (hd : (match d with | .struct _ | .array _ _ => true | _ => false) = true) (hi : (P.info? ty).map (·.size) = some cs.size) :
  (results fn tmps).run P w = .ok (.tuple #[.agg cs, tmps.getD u undef, tmps.getD v undef]) w := by
 have hp' : tmps[p]?.getD undef = .pointer (some ⟨g, 0, none⟩) := by simpa using hp
 simp [results, h, hp', asAddr, run_loadVar_row w g t ty cs fr d hg hu hd hi]
theorem parse1_head (r : (ByteArray × List ByteArray) × List S28) (toks : List S28) (hr : r = ((SP.E, []), toks)) : ∀ L : Low, HeadC 14 (.ok r) toks := by
 intro L B pb gn w h _ hg
 subst hr
 go_enter Try.func14, Try.ntmps14
 go_wp2
 refine bodyPost_end (results_none rfl _ _ _) rfl ?_
 exact ⟨rfl, ⟨none, 0, hg, Kd.Q_nil _ _ _ _ _⟩, h, Fr.refl _ _⟩
theorem tree_parse.calls {s : ByteArray} {x : SP.Nd} {p y : Int} (w : World) (h : ∀ w, Calls Try.prog 13 #[.string s, .func (.func 14) #[] #[]] w (NodeA x p y w)) : Calls Try.prog 10 #[.string s] w (NodeA x p y w) := by
 have hu36 := Try.underlying36
 have j := Aside0.mk (Fr.refl (fun k => w.heap.size ≤ k) w)
 have Z := Aside0.mk (Nat.le_refl w.heap.size)
 go_enter Try.func10, Try.ntmps10
 go_wp2_with (first
  | ((with_reducible refine gate_dst (N := 2) rfl ?_); apply boxE 2 #[.int .i64 0, .string ⟨#[]⟩, .int .i64 0, .int .i64 0, .slice none 0 0, .slice none 0 0] 36; intro u q b d l; replace j := j.f0 d; replace Z := Z.a l; clear l d; have c := b.e6)
  | ((with_reducible refine gate_dst (N := 6) rfl ?_); apply goE 6 Try.func13 (h q); rintro z v ⟨v_, rfl, ⟨nv, kv, rfl, i⟩, m⟩; refine Or.inl ⟨_, rfl, ?_⟩; have d : Fr (fun _ => False) q v := Fr.of_below m; replace j := j.f0 d; replace b := b.b0 d; replace Z := Z.k d; have e := Aside0.mk i; obtain ⟨AN, cN, rfl, _⟩ := Kd.Q_slice e.out.1; obtain ⟨AK, cK, rfl, _⟩ := Kd.Q_slice e.out.2; clear d i m; clear c; have c := b.e6))
 have r := b.s6 (.int .i64 x.kind) (.string x.text) (.int .i64 x.place) (.int .i64 x.n) (.slice AN x.names.length cN) (.slice AK x.kids.length cK)
 clear b
 obtain ⟨A, o, d, b⟩ := r
 rw [o]
 clear o
 have t := Z.out
 replace j := j.f1 d (by omega)
 replace e := e.n1 d (fun k hk => by omega)
 clear t
 replace Z := Z.k d
 clear d
 clear c
 have c := b.e6
 refine bodyPost_ret (results_ctt rfl _ _ u 36 _ (0, 0) _ rfl b.out hu36 rfl rfl) rfl ?_
 exact ⟨_, rfl, ⟨_, _, rfl, e.out.mono (fun k (hk : q.heap.size ≤ k) _ => (show w.heap.size ≤ k from by have t := Z.out; omega))⟩, j.out.below (Below.refl _ _) (fun k h => h) (Nat.le_refl _)⟩
theorem tree_method.calls {s : ByteArray} {x : SP.Nd} {p y : Int} (w : World) (h : ∀ w, Calls Try.prog 13 #[.string s, .func (.func 15) #[] #[]] w (NodeA x p y w)) : Calls Try.prog 11 #[.string s] w (NodeA x p y w) := by
 have hu36 := Try.underlying36
 have j := Aside0.mk (Fr.refl (fun k => w.heap.size ≤ k) w)
 have Z := Aside0.mk (Nat.le_refl w.heap.size)
 go_enter Try.func11, Try.ntmps11
 go_wp2_with (first
  | ((with_reducible refine gate_dst (N := 2) rfl ?_); apply boxE 2 #[.int .i64 0, .string ⟨#[]⟩, .int .i64 0, .int .i64 0, .slice none 0 0, .slice none 0 0] 36; intro u q b d l; replace j := j.f0 d; replace Z := Z.a l; clear l d; have c := b.e6)
  | ((with_reducible refine gate_dst (N := 6) rfl ?_); apply goE 6 Try.func13 (h q); rintro z v ⟨v_, rfl, ⟨nv, kv, rfl, i⟩, m⟩; refine Or.inl ⟨_, rfl, ?_⟩; have d : Fr (fun _ => False) q v := Fr.of_below m; replace j := j.f0 d; replace b := b.b0 d; replace Z := Z.k d; have e := Aside0.mk i; obtain ⟨AN, cN, rfl, _⟩ := Kd.Q_slice e.out.1; obtain ⟨AK, cK, rfl, _⟩ := Kd.Q_slice e.out.2; clear d i m; clear c; have c := b.e6))
 have r := b.s6 (.int .i64 x.kind) (.string x.text) (.int .i64 x.place) (.int .i64 x.n) (.slice AN x.names.length cN) (.slice AK x.kids.length cK)
 clear b
 obtain ⟨A, o, d, b⟩ := r
 rw [o]
 clear o
 have t := Z.out
 replace j := j.f1 d (by omega)
 replace e := e.n1 d (fun k hk => by omega)
 clear t
 replace Z := Z.k d
 clear d
 clear c
 have c := b.e6
 refine bodyPost_ret (results_ctt rfl _ _ u 36 _ (0, 0) _ rfl b.out hu36 rfl rfl) rfl ?_
 exact ⟨_, rfl, ⟨_, _, rfl, e.out.mono (fun k (hk : q.heap.size ≤ k) _ => (show w.heap.size ≤ k from by have t := Z.out; omega))⟩, j.out.below (Below.refl _ _) (fun k h => h) (Nat.le_refl _)⟩
end Go.Proofs.Ytpodpmjlkbbkoaa.P
