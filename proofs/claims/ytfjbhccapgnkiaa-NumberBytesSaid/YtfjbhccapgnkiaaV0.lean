import Derived.Test.YtfjbhccapgnkiaaE4
namespace Go.Proofs.Ytfjbhccapgnkiaa.P
open Go.RowKit Go.Proofs.YtfjbhccapgnkiaaW.PrintWords Go.Proofs.YtfjbhccapgnkiaaW.PrintLast Go.Proofs.YtfjbhccapgnkiaaW.PrintMore
attribute [local go_sem] max2_int min2_int max_two min_two max_three min_three max_four min_four
set_option linter.unusedVariables false
set_option linter.unusedSimpArgs false

/-! ### lapidarylaw02.same -/
theorem same_true (n : Bool) (l : List Int) : lapidaryref02_Same.f n l n l = some true := by simp [lapidaryref02_Same.f]
set_option maxHeartbeats 16000000 in
set_option maxRecDepth 100000 in
theorem law_same (xn yn : Bool) (Ax Ay : Option Addr) (cx cy : Nat) (lx ly : List Int) (r : Bool) (w : World) (hrx : Kd.C (Kd.int .u8) w Ax lx.length lx) (hcx : lx.length ≤ cx) (hry : Kd.C (Kd.int .u8) w Ay ly.length ly) (hcy : ly.length ≤ cy) (h : lapidaryref02_Same.f xn lx yn ly = some r) :
    Calls Try.prog 46 #[.agg #[.bool xn, .slice Ax lx.length cx], .agg #[.bool yn, .slice Ay ly.length cy]] w fun e w' => e = .returned (.bool r) ∧ Below w.heap.size w w' := by
  have hu24 := Try.underlying24
  have hu25 := Try.underlying25
  have Hx := Aside0.mk hrx
  have Cx := Aside0.mk hcx
  clear hrx hcx
  have Hy := Aside0.mk hry
  have Cy := Aside0.mk hcy
  clear hry hcy
  have n_ := Aside0.mk h
  clear h
  have h := n_
  clear n_
  have HBW := Aside0.mk (Below.refl w.heap.size w)
  have Z := Aside0.mk (show w.heap.size ≤ w.heap.size from Nat.le_refl _)
  go_enter Try.func46, Try.ntmps46
  go_wp2_with (first
    | ((with_reducible refine gate_dst (N := 2) rfl ?_); (try (refine gate_guard (by rfl) ?_; dsimp only)); refine box_event ?hg (N := 2) ?hd (cs := #[.bool xn, .slice Ax lx.length cx]) (t := 25) ?hr ?_; (case hd => rfl); (case hg => rfl); (case hr => first | (go_simp; done) | (go_simp; rfl)); intro b2 hg wa1 hbox hb; have K_ := Kept.of_below hb (fun _ => False); have n_ := Aside0.mk (And.intro (K_.1) Z.out); clear Z; have Z := n_; clear n_; have n_ := Aside0.mk (And.intro (Nat.le_of_eq hg.symm) Z.out); clear Z; have Z := n_; clear n_; have n_ := Aside0.mk (And.intro (Nat.le_of_eq hg) Z.out); clear Z; have Z := n_; clear n_; have n_ := Aside0.mk (And.intro (blk_lt hbox) Z.out); clear Z; have Z := n_; clear n_; have n_ := Aside0.mk (below_step HBW.out hb); clear HBW; have HBW := n_; clear n_; have BKb2 := Aside0.mk hbox; clear hb hbox hg K_; have hcz_b2_0 : wa1.cell? ⟨b2, 0, none⟩ = some (.bool xn) := (blk_cell BKb2.out 0).trans rfl; have hcz_b2_1 : wa1.cell? ⟨b2, 1, none⟩ = some (.slice Ax lx.length cx) := (blk_cell BKb2.out 1).trans rfl)
    | ((with_reducible refine gate_dst (N := 3) rfl ?_); (try (refine gate_guard (by rfl) ?_; dsimp only)); refine box_event ?hg (N := 3) ?hd (cs := #[.bool yn, .slice Ay ly.length cy]) (t := 25) ?hr ?_; (case hd => rfl); (case hg => rfl); (case hr => first | (go_simp; done) | (go_simp; rfl)); intro b3 hg wa2 hbox hb; have K_ := Kept.of_below hb (fun _ => False); have n_ := Aside0.mk ((blk_kept BKb2.out K_ (fun h => h))); clear BKb2; have BKb2 := n_; clear n_; have n_ := Aside0.mk (And.intro (K_.1) Z.out); clear Z; have Z := n_; clear n_; have n_ := Aside0.mk (And.intro (Nat.le_of_eq hg.symm) Z.out); clear Z; have Z := n_; clear n_; have n_ := Aside0.mk (And.intro (Nat.le_of_eq hg) Z.out); clear Z; have Z := n_; clear n_; have n_ := Aside0.mk (And.intro (blk_lt hbox) Z.out); clear Z; have Z := n_; clear n_; have n_ := Aside0.mk (below_step HBW.out hb); clear HBW; have HBW := n_; clear n_; have BKb3 := Aside0.mk hbox; clear hb hbox hg K_; clear hcz_b2_0 hcz_b2_1; have hcz_b2_0 : wa2.cell? ⟨b2, 0, none⟩ = some (.bool xn) := (blk_cell BKb2.out 0).trans rfl; have hcz_b2_1 : wa2.cell? ⟨b2, 1, none⟩ = some (.slice Ax lx.length cx) := (blk_cell BKb2.out 1).trans rfl; have hcz_b3_0 : wa2.cell? ⟨b3, 0, none⟩ = some (.bool yn) := (blk_cell BKb3.out 0).trans rfl; have hcz_b3_1 : wa2.cell? ⟨b3, 1, none⟩ = some (.slice Ay ly.length cy) := (blk_cell BKb3.out 1).trans rfl))
  have HB_ := Aside0.mk (Below.refl wa2.heap.size wa2).drew
  go_region_held3 (fun w' => w'.cell? ⟨b2, 0, none⟩ = some (.bool xn) ∧ w'.cell? ⟨b2, 1, none⟩ = some (.slice Ax lx.length cx) ∧ w'.cell? ⟨b3, 0, none⟩ = some (.bool yn) ∧ w'.cell? ⟨b3, 1, none⟩ = some (.slice Ay ly.length cy))
    (exact ⟨(blk_cell (blk_below BKb2.out HB_.out) 0).trans rfl, (blk_cell (blk_below BKb2.out HB_.out) 1).trans rfl, (blk_cell (blk_below BKb3.out HB_.out) 0).trans rfl, (blk_cell (blk_below BKb3.out HB_.out) 1).trans rfl⟩)
    (first | (go_at_call 36; refine (law_taken _ _ _ _ _).mono ?_; rintro e wr ⟨rfl, hb⟩; have n_ := Aside0.mk (below_step HB_.out hb); clear HB_; have HB_ := n_; clear n_; clear hb)
           | (go_at_call 35; refine (lapidaryref02_Same.calls xn Ax cx lx yn Ay cy ly r _ (Kd.C_below (Kd.C_below Hx.out HBW.out) HB_.out) Cx.out (Kd.C_below (Kd.C_below Hy.out HBW.out) HB_.out) Cy.out h.out).mono ?_; rintro e wr ⟨rfl, hb⟩; have n_ := Aside0.mk (below_step HB_.out hb); clear HB_; have HB_ := n_; clear n_; clear hb))
  all_goals go_wp2
  all_goals go_ret
  all_goals exact ⟨rfl, below_step HBW.out HB_.out⟩

/-! ### Facts carried from world to world, in few words -/
theorem mvB {w w' : World} {g : Nat} {o : Obj} (h : Aside0 (w.heap[g]? = some o)) (k : Kept w w' (fun _ => False)) : Aside0 (w'.heap[g]? = some o) := ⟨blk_kept h.out k (fun h => h)⟩
theorem mvL {w w' : World} {g : Nat} {l : List Int} (h : Aside0 (Lnt w g l)) (k : Kept w w' (fun _ => False)) : Aside0 (Lnt w' g l) := ⟨blk_kept h.out k (fun h => h)⟩
theorem mvR {w w' : World} {n : Nat} {p : Nat → Prop} {v : Value} {l : List Int} (h : Aside0 (Kd.R (Kd.int .u8) 5 w n p v l)) (k : Kept w w' (fun _ => False)) : Aside0 (Kd.R (Kd.int .u8) 5 w' n p v l) := ⟨Kd.R_kept h.out k (fun _ _ h => h)⟩
theorem sB {w w' : World} {g x : Nat} {o : Obj} (h : Aside0 (w.heap[g]? = some o)) (k : Kept w w' (fun k => k = x)) (n : g ≠ x) : Aside0 (w'.heap[g]? = some o) := ⟨blk_kept h.out k n⟩
theorem bS {w a b : World} (h : Aside0 (Below w.heap.size w a)) (hb : Below a.heap.size a b) : Aside0 (Below w.heap.size w b) := ⟨below_step h.out hb⟩
theorem zA {p q : Prop} (z : Aside0 p) (h : q) : Aside0 (q ∧ p) := ⟨⟨h, z.out⟩⟩
theorem cz2 {w : World} {g : Nat} {a b : Value} {t : TypeId} (h : Aside0 (w.heap[g]? = some (.cells #[a, b] t (0, 0)))) : w.cell? ⟨g, 0, none⟩ = some a ∧ w.cell? ⟨g, 1, none⟩ = some b := ⟨(blk_cell h.out 0).trans rfl, (blk_cell h.out 1).trans rfl⟩
theorem fz2 {w : World} {g : Nat} {a b : Value} {t : TypeId} (h : Aside0 (w.heap[g]? = some (.cells #[a, b] t (0, 0)))) : w.frozen? ⟨g, 0, none⟩ = false ∧ w.frozen? ⟨g, 1, none⟩ = false := ⟨blk_frozen h.out 0, blk_frozen h.out 1⟩
theorem put2 {w : World} {g : Nat} {a b a' b' : Value} {t : TypeId} (h : Aside0 (w.heap[g]? = some (.cells #[a, b] t (0, 0)))) : Aside0 ((World.setCell (World.setCell w ⟨g, 0, none⟩ a') ⟨g, 1, none⟩ b').heap[g]? = some (.cells #[a', b'] t (0, 0))) := ⟨blk_put (blk_put h.out 0 _ rfl) 1 _ rfl⟩
theorem kp2 {w : World} {g : Nat} {a b : Value} : Kept w (World.setCell (World.setCell w ⟨g, 0, none⟩ a) ⟨g, 1, none⟩ b) (fun k => k = g) := Kept.setCell (S := fun k => k = g) (Kept.setCell (S := fun k => k = g) (Kept.refl _ _) (p := ⟨g, 0, none⟩) (.inl rfl) _) (p := ⟨g, 1, none⟩) (.inl rfl) _
theorem bw2 {v w : World} {g : Nat} {a b : Value} (h : Below v.heap.size v w) (hg : v.heap.size ≤ g) : Below v.heap.size v (World.setCell (World.setCell w ⟨g, 0, none⟩ a) ⟨g, 1, none⟩ b) := below_set (below_set h hg) hg
theorem rN {w w' w0 : World} {v : Value} {l : List Int} (h : Kd.R (Kd.int .u8) 5 w' w.heap.size (fun _ => True) v l) (hb : Aside0 (Below w0.heap.size w0 w)) : ∃ A c, v = .slice A l.length c ∧ Aside0 (Kd.R (Kd.int .u8) 5 w' w0.heap.size (fun k => w.heap.size ≤ k ∧ k < w'.heap.size) (.slice A l.length c) l) := by
  obtain ⟨A, c, rfl⟩ := Kd.R_slice h
  exact ⟨A, c, rfl, ⟨Kd.R_lower (Kd.R_mono (ok' := fun k => w.heap.size ≤ k ∧ k < w'.heap.size) (Kd.R_bound h) (fun k hk => ⟨hk.2.1, hk.2.2.1⟩)) hb.out.size⟩⟩

end Go.Proofs.Ytfjbhccapgnkiaa.P
