import Derived.Test.YtfjbhccapgnkiaaV0
import Derived.Test.YtfjbhccapgnkiaaE5
import Derived.Test.YtfjbhccapgnkiaaB7
import Derived.Test.YtfjbhccapgnkiaaC6
namespace Go.Proofs.Ytfjbhccapgnkiaa.P
open Go.RowKit Go.Proofs.YtfjbhccapgnkiaaW.PrintWords Go.Proofs.YtfjbhccapgnkiaaW.PrintLast Go.Proofs.YtfjbhccapgnkiaaW.PrintMore
attribute [local go_sem] max2_int min2_int max_two min_two max_three min_three max_four min_four
set_option linter.unusedVariables false
set_option linter.unusedSimpArgs false

/-! ### WholeSmall: the walk -/
set_option maxHeartbeats 16000000 in
set_option maxRecDepth 100000 in
theorem small_walk (xn : Bool) (Ax : Option Addr) (cx : Nat) (lx : List Int) (yn : Bool) (Ay : Option Addr) (cy : Nat) (ly : List Int) (n : Int) (k1 k2 k3 k4 k5 k6 k7 : Nat) (jz : Bool) (lz : List Int) (sv : Int) (sb : Bool) (rb : Bool) (cv : Int) (w : World) (hrx : Kd.C (Kd.int .u8) w Ax lx.length lx) (hcx : lx.length ≤ cx) (hAx : Ax = none → cx = 0) (hlx : lx.length ≤ 140737488351232) (hry : Kd.C (Kd.int .u8) w Ay ly.length ly) (hcy : ly.length ≤ cy) (hAy : Ay = none → cy = 0) (hly : ly.length ≤ 140737488351232) (h1 : whole_Small.f k1 xn lx = some (sv, sb)) (h2 : lapidaryref02_Small.f k2 xn lx = some (sv, sb)) (h3 : whole_Of.f k3 n = some (jz, lz)) (h4 : lapidaryref02_Of.f k4 n = some (jz, lz)) (h5 : whole_Right.f xn lx = some rb) (h6 : lapidaryref02_Right.f xn lx = some rb) (h7 : whole_Cmp.f k5 xn lx yn ly = some cv) (h8 : lapidaryref02_Cmp.f k6 xn lx yn ly = some cv) (h9 : whole_Small.f k7 jz lz = some (n, true)) :
    Calls Try.prog 6 #[.int .i64 n, .agg #[.bool xn, .slice Ax lx.length cx], .agg #[.bool yn, .slice Ay ly.length cy]] w fun e w' => e = .returned (.bool true) ∧ Below w.heap.size w w' := by
  have hu24 := Try.underlying24
  have hu25 := Try.underlying25
  have Hx := Aside0.mk hrx
  have Cx := Aside0.mk hcx
  have Nx := Aside0.mk hAx
  have Xx := Aside0.mk hlx
  clear hrx hcx hAx hlx
  have Hy := Aside0.mk hry
  have Cy := Aside0.mk hcy
  have Ny := Aside0.mk hAy
  have Xy := Aside0.mk hly
  clear hry hcy hAy hly
  have n_ := Aside0.mk h1
  clear h1
  have h1 := n_
  clear n_
  have n_ := Aside0.mk h2
  clear h2
  have h2 := n_
  clear n_
  have n_ := Aside0.mk h3
  clear h3
  have h3 := n_
  clear n_
  have n_ := Aside0.mk h4
  clear h4
  have h4 := n_
  clear n_
  have n_ := Aside0.mk h5
  clear h5
  have h5 := n_
  clear n_
  have n_ := Aside0.mk h6
  clear h6
  have h6 := n_
  clear n_
  have n_ := Aside0.mk h7
  clear h7
  have h7 := n_
  clear n_
  have n_ := Aside0.mk h8
  clear h8
  have h8 := n_
  clear n_
  have n_ := Aside0.mk h9
  clear h9
  have h9 := n_
  clear n_
  have HBW := Aside0.mk (Below.refl w.heap.size w)
  have Z := Aside0.mk (show w.heap.size ≤ w.heap.size from Nat.le_refl _)
  go_enter Try.func6, Try.ntmps6
  go_wp2_with (first
    | ((with_reducible refine gate_dst (N := 4) rfl ?_); (try (refine gate_guard (by rfl) ?_; dsimp only)); refine box_event ?hg (N := 4) ?hd (cs := #[.bool xn, .slice Ax lx.length cx]) (t := 24) ?hr ?_; (case hd => rfl); (case hg => rfl); (case hr => first | (go_simp; done) | (go_simp; rfl)); intro b4 hg wa1 hbox hb; have K_ := Kept.of_below hb (fun _ => False); replace Z := zA Z (K_.1); replace Z := zA Z (Nat.le_of_eq hg.symm); replace Z := zA Z (Nat.le_of_eq hg); replace Z := zA Z (blk_lt hbox); replace HBW := bS HBW hb; have BKb4 := Aside0.mk hbox; clear hb hbox hg K_; obtain ⟨zb40, zb41⟩ := cz2 BKb4)
    | ((with_reducible refine gate_dst (N := 5) rfl ?_); (try (refine gate_guard (by rfl) ?_; dsimp only)); refine box_event ?hg (N := 5) ?hd (cs := #[.bool yn, .slice Ay ly.length cy]) (t := 24) ?hr ?_; (case hd => rfl); (case hg => rfl); (case hr => first | (go_simp; done) | (go_simp; rfl)); intro b5 hg wa2 hbox hb; have K_ := Kept.of_below hb (fun _ => False); replace BKb4 := mvB BKb4 K_; replace Z := zA Z (K_.1); replace Z := zA Z (Nat.le_of_eq hg.symm); replace Z := zA Z (Nat.le_of_eq hg); replace Z := zA Z (blk_lt hbox); replace HBW := bS HBW hb; have BKb5 := Aside0.mk hbox; clear hb hbox hg K_; clear zb40 zb41; obtain ⟨zb40, zb41⟩ := cz2 BKb4; obtain ⟨zb50, zb51⟩ := cz2 BKb5)
    | ((with_reducible refine gate_dst (N := 15) rfl ?_); (try (refine gate_guard (by rfl) ?_; dsimp only)); refine goesL_ (some 15) rfl rfl Try.func19 (by kernel_rfl) rfl #[.agg #[.bool xn, .slice Ax lx.length cx]] rfl (by (try simp only [List.map_toArray, List.map_cons, List.map_nil]); first | done | rfl | (simp only [List.length_drop, List.length_take]; rfl)) ?_; refine (lapidarylaw02_given.calls xn Ax cx lx _ (Kd.C_below Hx.out HBW.out) Cx.out Nx.out Xx.out).mono ?_; rintro e wa3 ⟨gu, rfl, hge, hL, hb⟩; refine ⟨_, rfl, ?_⟩; have K_ := Kept.of_below hb (fun _ => False); replace BKb4 := mvB BKb4 K_; replace BKb5 := mvB BKb5 K_; replace Z := zA Z (K_.1); replace HBW := bS HBW hb; replace Z := zA Z (hge); replace Z := zA Z (blk_lt (hL : wa3.heap[gu]? = _)); have Lu := Aside0.mk hL; clear hge hL; clear hb K_; clear zb40 zb41 zb50 zb51; obtain ⟨zb40, zb41⟩ := cz2 BKb4; obtain ⟨zb50, zb51⟩ := cz2 BKb5)
    | ((with_reducible refine gate_dst (N := 7) rfl ?_); (try (refine gate_guard (by rfl) ?_; dsimp only)); refine box_event ?hg (N := 7) ?hd (cs := #[.bool false, .slice none 0 0]) (t := 25) ?hr ?_; (case hd => rfl); (case hg => rfl); (case hr => first | (go_simp; done) | (go_simp; rfl)); intro bu hg wa4 hbox hb; have K_ := Kept.of_below hb (fun _ => False); replace BKb4 := mvB BKb4 K_; replace BKb5 := mvB BKb5 K_; replace Z := zA Z (K_.1); replace Z := zA Z (Nat.le_of_eq hg.symm); replace Z := zA Z (Nat.le_of_eq hg); replace Z := zA Z (blk_lt hbox); have BKbu := Aside0.mk hbox; have PB_ := Aside0.mk hb; have PG_ := Aside0.mk (Nat.le_of_eq hg.symm); clear hb hbox hg K_; clear zb40 zb41 zb50 zb51; obtain ⟨zb40, zb41⟩ := cz2 BKb4; obtain ⟨zb50, zb51⟩ := cz2 BKb5; obtain ⟨zbu0, zbu1⟩ := cz2 BKbu; obtain ⟨fbu0, fbu1⟩ := fz2 BKbu; have nbub4 : bu ≠ b4 := (by have hZ := Z.out; omega); have nb4bu := nbub4.symm; have nbub5 : bu ≠ b5 := (by have hZ := Z.out; omega); have nb5bu := nbub5.symm)
    | ((with_reducible refine gate_dst (N := 18) rfl ?_); (try (refine gate_guard (by rfl) ?_; dsimp only)); have NB_ := put2 (a' := .bool xn) (b' := .slice (some ⟨gu, 0, none⟩) lx.length (lx.length + 8)) BKbu; have K_ := kp2 (w := wa4) (g := bu) (a := .bool xn) (b := .slice (some ⟨gu, 0, none⟩) lx.length (lx.length + 8)); have hb := bw2 (a := .bool xn) (b := .slice (some ⟨gu, 0, none⟩) lx.length (lx.length + 8)) PB_.out PG_.out; obtain ⟨wa5, hwS⟩ : ∃ W_, W_ = (World.setCell (World.setCell wa4 ⟨bu, 0, none⟩ (.bool xn)) ⟨bu, 1, none⟩ (.slice (some ⟨gu, 0, none⟩) lx.length (lx.length + 8))) := ⟨_, rfl⟩; rw [← hwS] at NB_ K_ hb ⊢; clear hwS; replace BKb4 := sB BKb4 K_ nb4bu; replace BKb5 := sB BKb5 K_ nb5bu; replace Z := zA Z (K_.1); clear K_ BKbu; have BKbu := NB_; have K_ := Kept.of_below hb (fun _ => False); replace Lu := mvL Lu K_; replace Z := zA Z (K_.1); replace HBW := bS HBW hb; clear K_ NB_ hb PB_ PG_; clear zb40 zb41 zb50 zb51 zbu0 zbu1 fbu0 fbu1 nbub4 nb4bu nbub5 nb5bu; obtain ⟨zb40, zb41⟩ := cz2 BKb4; obtain ⟨zb50, zb51⟩ := cz2 BKb5; obtain ⟨zbu0, zbu1⟩ := cz2 BKbu; refine goesL_ (some 18) rfl rfl Try.func33 (by kernel_rfl) rfl #[.agg #[.bool xn, .slice (some ⟨gu, 0, none⟩) lx.length (lx.length + 8)]] rfl (by (try simp only [List.map_toArray, List.map_cons, List.map_nil]); first | done | rfl | (simp only [List.length_drop, List.length_take]; rfl)) ?_; refine (whole_Small.calls k1 xn _ _ lx sv sb _ (Lnt.read Lu.out Xx.out) (Nat.le_add_right _ _) h1.out).mono ?_; rintro e wa6 ⟨rfl, hb⟩; refine ⟨_, rfl, ?_⟩; have K_ := Kept.of_below hb (fun _ => False); replace BKb4 := mvB BKb4 K_; replace BKb5 := mvB BKb5 K_; replace BKbu := mvB BKbu K_; replace Lu := mvL Lu K_; replace Z := zA Z (K_.1); replace HBW := bS HBW hb; clear hb K_; clear zb40 zb41 zb50 zb51 zbu0 zbu1; obtain ⟨zb40, zb41⟩ := cz2 BKb4; obtain ⟨zb50, zb51⟩ := cz2 BKb5; obtain ⟨zbu0, zbu1⟩ := cz2 BKbu)
    | ((with_reducible refine gate_dst (N := 23) rfl ?_); (try (refine gate_guard (by rfl) ?_; dsimp only)); refine goesL_ (some 23) rfl rfl Try.func34 (by kernel_rfl) rfl #[.agg #[.bool xn, .slice Ax lx.length cx]] rfl (by (try simp only [List.map_toArray, List.map_cons, List.map_nil]); first | done | rfl | (simp only [List.length_drop, List.length_take]; rfl)) ?_; refine (lapidaryref02_Small.calls k2 xn _ _ lx sv sb _ (Kd.C_below Hx.out HBW.out) Cx.out h2.out).mono ?_; rintro e wa7 ⟨rfl, hb⟩; refine ⟨_, rfl, ?_⟩; have K_ := Kept.of_below hb (fun _ => False); replace BKb4 := mvB BKb4 K_; replace BKb5 := mvB BKb5 K_; replace BKbu := mvB BKbu K_; replace Lu := mvL Lu K_; replace Z := zA Z (K_.1); replace HBW := bS HBW hb; clear hb K_; clear zb40 zb41 zb50 zb51 zbu0 zbu1; obtain ⟨zb40, zb41⟩ := cz2 BKb4; obtain ⟨zb50, zb51⟩ := cz2 BKb5; obtain ⟨zbu0, zbu1⟩ := cz2 BKbu))
  have HB_ := Aside0.mk (Below.refl wa7.heap.size wa7).drew
  go_region_held3 (fun w' => w'.cell? ⟨bu, 0, none⟩ = some (.bool xn) ∧ w'.cell? ⟨bu, 1, none⟩ = some (.slice (some ⟨gu, 0, none⟩) lx.length (lx.length + 8)) ∧ w'.cell? ⟨b4, 0, none⟩ = some (.bool xn) ∧ w'.cell? ⟨b4, 1, none⟩ = some (.slice Ax lx.length cx) ∧ w'.cell? ⟨b5, 0, none⟩ = some (.bool yn) ∧ w'.cell? ⟨b5, 1, none⟩ = some (.slice Ay ly.length cy))
    (exact ⟨(blk_cell (blk_below BKbu.out HB_.out) 0).trans rfl, (blk_cell (blk_below BKbu.out HB_.out) 1).trans rfl, (blk_cell (blk_below BKb4.out HB_.out) 0).trans rfl, (blk_cell (blk_below BKb4.out HB_.out) 1).trans rfl, (blk_cell (blk_below BKb5.out HB_.out) 0).trans rfl, (blk_cell (blk_below BKb5.out HB_.out) 1).trans rfl⟩)
    (first | (go_at_call 37; refine (whole_Of.calls k3 n jz lz _ h3.out).mono ?_; rintro e wr ⟨v_, rfl, hR, hb⟩; have n_ := Aside0.mk (below_step HB_.out hb); clear HB_; have HB_ := n_; clear n_; (try (have n_ := Aside0.mk (And.intro (Kd.C_below Qb.out.1 hb) Qb.out.2); clear Qb; have Qb := n_; clear n_)); obtain ⟨Aa, ca, ev_⟩ := Kd.R_slice hR; subst ev_; have Qa := Aside0.mk (And.intro (Kd.R_reads' hR).2.2 (Kd.R_reads' hR).2.1); clear hR; (try (have n_ := Aside0.mk (show Lnt _ gy ly from blk_below Ly_.out hb); clear Ly_; have Ly_ := n_; clear n_)); clear hb)
           | (go_at_call 38; refine (lapidaryref02_Of.calls k4 n jz lz _ h4.out).mono ?_; rintro e wr ⟨v_, rfl, hR, hb⟩; have n_ := Aside0.mk (below_step HB_.out hb); clear HB_; have HB_ := n_; clear n_; (try (have n_ := Aside0.mk (And.intro (Kd.C_below Qa.out.1 hb) Qa.out.2); clear Qa; have Qa := n_; clear n_)); obtain ⟨Ab, cb, ev_⟩ := Kd.R_slice hR; subst ev_; have Qb := Aside0.mk (And.intro (Kd.R_reads' hR).2.2 (Kd.R_reads' hR).2.1); clear hR; (try (have n_ := Aside0.mk (show Lnt _ gy ly from blk_below Ly_.out hb); clear Ly_; have Ly_ := n_; clear n_)); clear hb)
           | (go_at_call 36; refine (law_taken _ _ _ _ _).mono ?_; rintro e wr ⟨rfl, hb⟩; have n_ := Aside0.mk (below_step HB_.out hb); clear HB_; have HB_ := n_; clear n_; (try (have n_ := Aside0.mk (And.intro (Kd.C_below Qa.out.1 hb) Qa.out.2); clear Qa; have Qa := n_; clear n_)); (try (have n_ := Aside0.mk (And.intro (Kd.C_below Qb.out.1 hb) Qb.out.2); clear Qb; have Qb := n_; clear n_)); (try (have n_ := Aside0.mk (show Lnt _ gy ly from blk_below Ly_.out hb); clear Ly_; have Ly_ := n_; clear n_)); clear hb)
           | (go_at_call 35; refine (lapidaryref02_Same.calls jz _ _ lz jz _ _ lz true _ Qa.out.1 Qa.out.2 Qb.out.1 Qb.out.2 (same_true jz lz)).mono ?_; rintro e wr ⟨rfl, hb⟩; have n_ := Aside0.mk (below_step HB_.out hb); clear HB_; have HB_ := n_; clear n_; (try (have n_ := Aside0.mk (And.intro (Kd.C_below Qa.out.1 hb) Qa.out.2); clear Qa; have Qa := n_; clear n_)); (try (have n_ := Aside0.mk (And.intro (Kd.C_below Qb.out.1 hb) Qb.out.2); clear Qb; have Qb := n_; clear n_)); (try (have n_ := Aside0.mk (show Lnt _ gy ly from blk_below Ly_.out hb); clear Ly_; have Ly_ := n_; clear n_)); clear hb)
           | (go_at_call 39; refine (whole_Right.calls xn _ _ lx rb _ (Kd.C_below (Lnt.read Lu.out Xx.out) HB_.out) (Nat.le_add_right _ _) h5.out).mono ?_; rintro e wr ⟨rfl, hb⟩; have n_ := Aside0.mk (below_step HB_.out hb); clear HB_; have HB_ := n_; clear n_; (try (have n_ := Aside0.mk (And.intro (Kd.C_below Qa.out.1 hb) Qa.out.2); clear Qa; have Qa := n_; clear n_)); (try (have n_ := Aside0.mk (And.intro (Kd.C_below Qb.out.1 hb) Qb.out.2); clear Qb; have Qb := n_; clear n_)); (try (have n_ := Aside0.mk (show Lnt _ gy ly from blk_below Ly_.out hb); clear Ly_; have Ly_ := n_; clear n_)); clear hb)
           | (go_at_call 40; refine (lapidaryref02_Right.calls xn _ _ lx rb _ (Kd.C_below (Kd.C_below Hx.out HBW.out) HB_.out) Cx.out h6.out).mono ?_; rintro e wr ⟨rfl, hb⟩; have n_ := Aside0.mk (below_step HB_.out hb); clear HB_; have HB_ := n_; clear n_; (try (have n_ := Aside0.mk (And.intro (Kd.C_below Qa.out.1 hb) Qa.out.2); clear Qa; have Qa := n_; clear n_)); (try (have n_ := Aside0.mk (And.intro (Kd.C_below Qb.out.1 hb) Qb.out.2); clear Qb; have Qb := n_; clear n_)); (try (have n_ := Aside0.mk (show Lnt _ gy ly from blk_below Ly_.out hb); clear Ly_; have Ly_ := n_; clear n_)); clear hb)
           | (go_at_call 42; refine (lapidaryref02_Cmp.calls k6 xn _ _ lx yn _ _ ly cv _ (Kd.C_below (Kd.C_below Hx.out HBW.out) HB_.out) Cx.out (Kd.C_below (Kd.C_below Hy.out HBW.out) HB_.out) Cy.out h8.out).mono ?_; rintro e wr ⟨rfl, hb⟩; have n_ := Aside0.mk (below_step HB_.out hb); clear HB_; have HB_ := n_; clear n_; (try (have n_ := Aside0.mk (And.intro (Kd.C_below Qa.out.1 hb) Qa.out.2); clear Qa; have Qa := n_; clear n_)); (try (have n_ := Aside0.mk (And.intro (Kd.C_below Qb.out.1 hb) Qb.out.2); clear Qb; have Qb := n_; clear n_)); (try (have n_ := Aside0.mk (show Lnt _ gy ly from blk_below Ly_.out hb); clear Ly_; have Ly_ := n_; clear n_)); clear hb)
           | (go_at_call 41; refine (whole_Cmp.calls k5 xn _ _ lx yn _ _ ly cv _ (Kd.C_below (Lnt.read Lu.out Xx.out) HB_.out) (Nat.le_add_right _ _) (Lnt.read Ly_.out Xy.out) (Nat.le_add_right _ _) h7.out).mono ?_; rintro e wr ⟨rfl, hb⟩; have n_ := Aside0.mk (below_step HB_.out hb); clear HB_; have HB_ := n_; clear n_; (try (have n_ := Aside0.mk (And.intro (Kd.C_below Qa.out.1 hb) Qa.out.2); clear Qa; have Qa := n_; clear n_)); (try (have n_ := Aside0.mk (And.intro (Kd.C_below Qb.out.1 hb) Qb.out.2); clear Qb; have Qb := n_; clear n_)); (try (have n_ := Aside0.mk (show Lnt _ gy ly from blk_below Ly_.out hb); clear Ly_; have Ly_ := n_; clear n_)); clear hb)
           | (go_at_call 19; refine (lapidarylaw02_given.calls yn Ay cy ly _ (Kd.C_below (Kd.C_below Hy.out HBW.out) HB_.out) Cy.out Ny.out Xy.out).mono ?_; rintro e wr ⟨gy, rfl, hge, hL, hb⟩; have n_ := Aside0.mk (below_step HB_.out hb); clear HB_; have HB_ := n_; clear n_; (try (have n_ := Aside0.mk (And.intro (Kd.C_below Qa.out.1 hb) Qa.out.2); clear Qa; have Qa := n_; clear n_)); (try (have n_ := Aside0.mk (And.intro (Kd.C_below Qb.out.1 hb) Qb.out.2); clear Qb; have Qb := n_; clear n_)); have Ly_ := Aside0.mk hL; clear hge hL; clear hb))
  all_goals (
    have K_ := Kept.of_below HB_.out (fun _ => False)
    replace BKb4 := mvB BKb4 K_; replace BKb5 := mvB BKb5 K_; replace BKbu := mvB BKbu K_; replace Lu := mvL Lu K_; replace Z := zA Z (K_.1); replace HBW := bS HBW HB_.out; clear zb40 zb41 zb50 zb51 zbu0 zbu1; obtain ⟨zb40, zb41⟩ := cz2 BKb4; obtain ⟨zb50, zb51⟩ := cz2 BKb5; obtain ⟨zbu0, zbu1⟩ := cz2 BKbu
    go_wp2_with (first
      | ((with_reducible refine gate_dst (N := 62) rfl ?_); (try (refine gate_guard (by rfl) ?_; dsimp only)); refine goesL_ (some 62) rfl rfl Try.func37 (by kernel_rfl) rfl #[.int .i64 n] rfl (by (try simp only [List.map_toArray, List.map_cons, List.map_nil]); first | done | rfl | (simp only [List.length_drop, List.length_take]; rfl)) ?_; refine (whole_Of.calls k3 n jz lz _ h3.out).mono ?_; rintro e wa8 ⟨v_, rfl, hR, hb⟩; refine ⟨_, rfl, ?_⟩; have K_ := Kept.of_below hb (fun _ => False); replace BKb4 := mvB BKb4 K_; replace BKb5 := mvB BKb5 K_; replace BKbu := mvB BKbu K_; replace Lu := mvL Lu K_; replace Z := zA Z (K_.1); obtain ⟨Ad, cd, ev_, Rd⟩ := rN hR HBW; subst ev_; clear hR; replace HBW := bS HBW hb; clear hb K_; clear zb40 zb41 zb50 zb51 zbu0 zbu1; obtain ⟨zb40, zb41⟩ := cz2 BKb4; obtain ⟨zb50, zb51⟩ := cz2 BKb5; obtain ⟨zbu0, zbu1⟩ := cz2 BKbu)
      | ((with_reducible refine gate_dst (N := 63) rfl ?_); (try (refine gate_guard (by rfl) ?_; dsimp only)); refine goesL_ (some 63) rfl rfl Try.func33 (by kernel_rfl) rfl #[.agg #[.bool jz, .slice Ad lz.length cd]] rfl (by (try simp only [List.map_toArray, List.map_cons, List.map_nil]); first | done | rfl | (simp only [List.length_drop, List.length_take]; rfl)) ?_; refine (whole_Small.calls k7 jz _ _ lz n true _ (Kd.R_reads' Rd.out).2.2 (Kd.R_reads' Rd.out).2.1 h9.out).mono ?_; rintro e wa9 ⟨rfl, hb⟩; refine ⟨_, rfl, ?_⟩; have K_ := Kept.of_below hb (fun _ => False); replace BKb4 := mvB BKb4 K_; replace BKb5 := mvB BKb5 K_; replace BKbu := mvB BKbu K_; replace Lu := mvL Lu K_; replace Rd := mvR Rd K_; replace Z := zA Z (K_.1); replace HBW := bS HBW hb; clear hb K_; clear zb40 zb41 zb50 zb51 zbu0 zbu1; obtain ⟨zb40, zb41⟩ := cz2 BKb4; obtain ⟨zb50, zb51⟩ := cz2 BKb5; obtain ⟨zbu0, zbu1⟩ := cz2 BKbu)
      | ((with_reducible refine gate_dst (N := 77) rfl ?_); (try (refine gate_guard (by rfl) ?_; dsimp only)); refine goesL_ (some 77) rfl rfl Try.func28 (by kernel_rfl) rfl #[.slice (some ⟨gu, 0, none⟩) lx.length (lx.length + 8), .slice Ax lx.length cx] rfl (by (try simp only [List.map_toArray, List.map_cons, List.map_nil]); first | done | rfl | (simp only [List.length_drop, List.length_take]; rfl)) ?_; refine (lapidaryref01_Kept.calls gu Ax cx lx _ Lu.out (Kd.C_below Hx.out HBW.out) Cx.out Xx.out).mono ?_; rintro e wa10 ⟨rfl, hb⟩; refine ⟨_, rfl, ?_⟩; have K_ := Kept.of_below hb (fun _ => False); replace BKb4 := mvB BKb4 K_; replace BKb5 := mvB BKb5 K_; replace BKbu := mvB BKbu K_; replace Lu := mvL Lu K_; replace Rd := mvR Rd K_; replace Z := zA Z (K_.1); replace HBW := bS HBW hb; clear hb K_; clear zb40 zb41 zb50 zb51 zbu0 zbu1; obtain ⟨zb40, zb41⟩ := cz2 BKb4; obtain ⟨zb50, zb51⟩ := cz2 BKb5; obtain ⟨zbu0, zbu1⟩ := cz2 BKbu)
      | ((with_reducible refine gate_dst (N := 80) rfl ?_); (try (refine gate_guard (by rfl) ?_; dsimp only)); refine goesL_ (some 80) rfl rfl Try.func25 (by kernel_rfl) rfl #[] rfl (by (try simp only [List.map_toArray, List.map_cons, List.map_nil]); first | done | rfl | (simp only [List.length_drop, List.length_take]; rfl)) ?_; refine (law_known _).mono ?_; rintro e wa11 ⟨rfl, hb⟩; refine ⟨_, rfl, ?_⟩; have K_ := Kept.of_below hb (fun _ => False); replace BKb4 := mvB BKb4 K_; replace BKb5 := mvB BKb5 K_; replace BKbu := mvB BKbu K_; replace Lu := mvL Lu K_; replace Rd := mvR Rd K_; replace Z := zA Z (K_.1); replace HBW := bS HBW hb; clear hb K_; clear zb40 zb41 zb50 zb51 zbu0 zbu1; obtain ⟨zb40, zb41⟩ := cz2 BKb4; obtain ⟨zb50, zb51⟩ := cz2 BKb5; obtain ⟨zbu0, zbu1⟩ := cz2 BKbu))
    go_ret
    exact ⟨rfl, HBW.out⟩)

end Go.Proofs.Ytfjbhccapgnkiaa.P
