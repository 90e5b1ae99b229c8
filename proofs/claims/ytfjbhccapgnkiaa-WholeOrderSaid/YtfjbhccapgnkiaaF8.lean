import Derived.Test.YtfjbhccapgnkiaaV0
import Derived.Test.YtfjbhccapgnkiaaE5
import Derived.Test.YtfjbhccapgnkiaaG1
import Derived.Test.YtfjbhccapgnkiaaB6
import Derived.Test.YtfjbhccapgnkiaaB7c
namespace Go.Proofs.Ytfjbhccapgnkiaa.P
open Go.RowKit Go.Proofs.YtfjbhccapgnkiaaW.PrintWords Go.Proofs.YtfjbhccapgnkiaaW.PrintLast Go.Proofs.YtfjbhccapgnkiaaW.PrintMore
attribute [local go_sem] max2_int min2_int max_two min_two max_three min_three max_four min_four
set_option linter.unusedVariables false
set_option linter.unusedSimpArgs false

/-! ### WholeOrder: the walks -/
set_option maxHeartbeats 16000000 in
set_option maxRecDepth 100000 in
theorem order_not0 (xn : Bool) (Ax : Option Addr) (cx : Nat) (lx : List Int) (yn : Bool) (Ay : Option Addr) (cy : Nat) (ly : List Int) (zn : Bool) (Az : Option Addr) (cz : Nat) (lz : List Int) (w : World) (hrx : Kd.C (Kd.int .u8) w Ax lx.length lx) (hcx : lx.length ≤ cx) (hAx : Ax = none → cx = 0) (hlx : lx.length ≤ 140737488351232) (hry : Kd.C (Kd.int .u8) w Ay ly.length ly) (hcy : ly.length ≤ cy) (hAy : Ay = none → cy = 0) (hly : ly.length ≤ 140737488351232) (hrz : Kd.C (Kd.int .u8) w Az lz.length lz) (hcz : lz.length ≤ cz) (hAz : Az = none → cz = 0) (hlz : lz.length ≤ 140737488351232) (hs0 : lapidarylaw02_small.f xn lx = some false) :
    Calls Try.prog 8 #[.agg #[.bool xn, .slice Ax lx.length cx], .agg #[.bool yn, .slice Ay ly.length cy], .agg #[.bool zn, .slice Az lz.length cz]] w fun e w' => e = .returned (.bool true) ∧ Below w.heap.size w w' := by
  have hu24 := Try.underlying24
  have hu25 := Try.underlying25
  have Hx := Aside0.mk hrx
  have Cx := Aside0.mk hcx
  have Nx := Aside0.mk hAx
  have Xx := Aside0.mk hlx
  clear hrx hcx hAx hlx
  have Hy := Aside0.mk hry
  have Cy := Aside0.mk hcy
  have Ny := Aside0.mk hAy
  have Xy := Aside0.mk hly
  clear hry hcy hAy hly
  have Hz := Aside0.mk hrz
  have Cz := Aside0.mk hcz
  have Nz := Aside0.mk hAz
  have Xz := Aside0.mk hlz
  clear hrz hcz hAz hlz
  have n_ := Aside0.mk hs0
  clear hs0
  have hs0 := n_
  clear n_
  have HBW := Aside0.mk (Below.refl w.heap.size w)
  have Z := Aside0.mk (show w.heap.size ≤ w.heap.size from Nat.le_refl _)
  go_enter Try.func8, Try.ntmps8
  go_wp2_with (first
    | ((with_reducible refine gate_dst (N := 3) rfl ?_); (try (refine gate_guard (by rfl) ?_; dsimp only)); refine box_event ?hg (N := 3) ?hd (cs := #[.bool xn, .slice Ax lx.length cx]) (t := 24) ?hr ?_; (case hd => rfl); (case hg => rfl); (case hr => first | (go_simp; done) | (go_simp; rfl)); intro b3 hg wa1 hbox hb; have K_ := Kept.of_below hb (fun _ => False); replace Z := zA Z (K_.1); replace Z := zA Z (Nat.le_of_eq hg.symm); replace Z := zA Z (Nat.le_of_eq hg); replace Z := zA Z (blk_lt hbox); replace HBW := bS HBW hb; have BKb3 := Aside0.mk hbox; clear hb hbox hg K_; obtain ⟨zb30, zb31⟩ := cz2 BKb3)
    | ((with_reducible refine gate_dst (N := 4) rfl ?_); (try (refine gate_guard (by rfl) ?_; dsimp only)); refine box_event ?hg (N := 4) ?hd (cs := #[.bool yn, .slice Ay ly.length cy]) (t := 24) ?hr ?_; (case hd => rfl); (case hg => rfl); (case hr => first | (go_simp; done) | (go_simp; rfl)); intro b4 hg wa2 hbox hb; have K_ := Kept.of_below hb (fun _ => False); replace BKb3 := mvB BKb3 K_; replace Z := zA Z (K_.1); replace Z := zA Z (Nat.le_of_eq hg.symm); replace Z := zA Z (Nat.le_of_eq hg); replace Z := zA Z (blk_lt hbox); replace HBW := bS HBW hb; have BKb4 := Aside0.mk hbox; clear hb hbox hg K_; clear zb30 zb31; obtain ⟨zb30, zb31⟩ := cz2 BKb3; obtain ⟨zb40, zb41⟩ := cz2 BKb4)
    | ((with_reducible refine gate_dst (N := 5) rfl ?_); (try (refine gate_guard (by rfl) ?_; dsimp only)); refine box_event ?hg (N := 5) ?hd (cs := #[.bool zn, .slice Az lz.length cz]) (t := 24) ?hr ?_; (case hd => rfl); (case hg => rfl); (case hr => first | (go_simp; done) | (go_simp; rfl)); intro b5 hg wa3 hbox hb; have K_ := Kept.of_below hb (fun _ => False); replace BKb3 := mvB BKb3 K_; replace BKb4 := mvB BKb4 K_; replace Z := zA Z (K_.1); replace Z := zA Z (Nat.le_of_eq hg.symm); replace Z := zA Z (Nat.le_of_eq hg); replace Z := zA Z (blk_lt hbox); replace HBW := bS HBW hb; have BKb5 := Aside0.mk hbox; clear hb hbox hg K_; clear zb30 zb31 zb40 zb41; obtain ⟨zb30, zb31⟩ := cz2 BKb3; obtain ⟨zb40, zb41⟩ := cz2 BKb4; obtain ⟨zb50, zb51⟩ := cz2 BKb5)
    | ((with_reducible refine gate_dst (N := 14) rfl ?_); (try (refine gate_guard (by rfl) ?_; dsimp only)); refine goesL_ (some 14) rfl rfl Try.func43 (by kernel_rfl) rfl #[.agg #[.bool xn, .slice Ax lx.length cx]] rfl (by (try simp only [List.map_toArray, List.map_cons, List.map_nil]); first | done | rfl | (simp only [List.length_drop, List.length_take]; rfl)) ?_; refine (lapidarylaw02_small.calls xn _ _ lx false _ (Kd.C_below Hx.out HBW.out) Cx.out hs0.out).mono ?_; rintro e wa4 ⟨rfl, hb⟩; refine ⟨_, rfl, ?_⟩; have K_ := Kept.of_below hb (fun _ => False); replace BKb3 := mvB BKb3 K_; replace BKb4 := mvB BKb4 K_; replace BKb5 := mvB BKb5 K_; replace Z := zA Z (K_.1); replace HBW := bS HBW hb; clear hb K_; clear zb30 zb31 zb40 zb41 zb50 zb51; obtain ⟨zb30, zb31⟩ := cz2 BKb3; obtain ⟨zb40, zb41⟩ := cz2 BKb4; obtain ⟨zb50, zb51⟩ := cz2 BKb5)
    | ((with_reducible refine gate_dst (N := 26) rfl ?_); (try (refine gate_guard (by rfl) ?_; dsimp only)); refine goesL_ (some 26) rfl rfl Try.func25 (by kernel_rfl) rfl #[] rfl (by (try simp only [List.map_toArray, List.map_cons, List.map_nil]); first | done | rfl | (simp only [List.length_drop, List.length_take]; rfl)) ?_; refine (law_known _).mono ?_; rintro e wa5 ⟨rfl, hb⟩; refine ⟨_, rfl, ?_⟩; have K_ := Kept.of_below hb (fun _ => False); replace BKb3 := mvB BKb3 K_; replace BKb4 := mvB BKb4 K_; replace BKb5 := mvB BKb5 K_; replace Z := zA Z (K_.1); replace HBW := bS HBW hb; clear hb K_; clear zb30 zb31 zb40 zb41 zb50 zb51; obtain ⟨zb30, zb31⟩ := cz2 BKb3; obtain ⟨zb40, zb41⟩ := cz2 BKb4; obtain ⟨zb50, zb51⟩ := cz2 BKb5))
  go_ret
  exact ⟨rfl, HBW.out⟩
set_option maxHeartbeats 16000000 in
set_option maxRecDepth 100000 in
theorem order_not1 (xn : Bool) (Ax : Option Addr) (cx : Nat) (lx : List Int) (yn : Bool) (Ay : Option Addr) (cy : Nat) (ly : List Int) (zn : Bool) (Az : Option Addr) (cz : Nat) (lz : List Int) (w : World) (hrx : Kd.C (Kd.int .u8) w Ax lx.length lx) (hcx : lx.length ≤ cx) (hAx : Ax = none → cx = 0) (hlx : lx.length ≤ 140737488351232) (hry : Kd.C (Kd.int .u8) w Ay ly.length ly) (hcy : ly.length ≤ cy) (hAy : Ay = none → cy = 0) (hly : ly.length ≤ 140737488351232) (hrz : Kd.C (Kd.int .u8) w Az lz.length lz) (hcz : lz.length ≤ cz) (hAz : Az = none → cz = 0) (hlz : lz.length ≤ 140737488351232) (hs0 : lapidarylaw02_small.f xn lx = some true) (hs1 : lapidarylaw02_small.f yn ly = some false) :
    Calls Try.prog 8 #[.agg #[.bool xn, .slice Ax lx.length cx], .agg #[.bool yn, .slice Ay ly.length cy], .agg #[.bool zn, .slice Az lz.length cz]] w fun e w' => e = .returned (.bool true) ∧ Below w.heap.size w w' := by
  have hu24 := Try.underlying24
  have hu25 := Try.underlying25
  have Hx := Aside0.mk hrx
  have Cx := Aside0.mk hcx
  have Nx := Aside0.mk hAx
  have Xx := Aside0.mk hlx
  clear hrx hcx hAx hlx
  have Hy := Aside0.mk hry
  have Cy := Aside0.mk hcy
  have Ny := Aside0.mk hAy
  have Xy := Aside0.mk hly
  clear hry hcy hAy hly
  have Hz := Aside0.mk hrz
  have Cz := Aside0.mk hcz
  have Nz := Aside0.mk hAz
  have Xz := Aside0.mk hlz
  clear hrz hcz hAz hlz
  have n_ := Aside0.mk hs0
  clear hs0
  have hs0 := n_
  clear n_
  have n_ := Aside0.mk hs1
  clear hs1
  have hs1 := n_
  clear n_
  have HBW := Aside0.mk (Below.refl w.heap.size w)
  have Z := Aside0.mk (show w.heap.size ≤ w.heap.size from Nat.le_refl _)
  go_enter Try.func8, Try.ntmps8
  go_wp2_with (first
    | ((with_reducible refine gate_dst (N := 3) rfl ?_); (try (refine gate_guard (by rfl) ?_; dsimp only)); refine box_event ?hg (N := 3) ?hd (cs := #[.bool xn, .slice Ax lx.length cx]) (t := 24) ?hr ?_; (case hd => rfl); (case hg => rfl); (case hr => first | (go_simp; done) | (go_simp; rfl)); intro b3 hg wa1 hbox hb; have K_ := Kept.of_below hb (fun _ => False); replace Z := zA Z (K_.1); replace Z := zA Z (Nat.le_of_eq hg.symm); replace Z := zA Z (Nat.le_of_eq hg); replace Z := zA Z (blk_lt hbox); replace HBW := bS HBW hb; have BKb3 := Aside0.mk hbox; clear hb hbox hg K_; obtain ⟨zb30, zb31⟩ := cz2 BKb3)
    | ((with_reducible refine gate_dst (N := 4) rfl ?_); (try (refine gate_guard (by rfl) ?_; dsimp only)); refine box_event ?hg (N := 4) ?hd (cs := #[.bool yn, .slice Ay ly.length cy]) (t := 24) ?hr ?_; (case hd => rfl); (case hg => rfl); (case hr => first | (go_simp; done) | (go_simp; rfl)); intro b4 hg wa2 hbox hb; have K_ := Kept.of_below hb (fun _ => False); replace BKb3 := mvB BKb3 K_; replace Z := zA Z (K_.1); replace Z := zA Z (Nat.le_of_eq hg.symm); replace Z := zA Z (Nat.le_of_eq hg); replace Z := zA Z (blk_lt hbox); replace HBW := bS HBW hb; have BKb4 := Aside0.mk hbox; clear hb hbox hg K_; clear zb30 zb31; obtain ⟨zb30, zb31⟩ := cz2 BKb3; obtain ⟨zb40, zb41⟩ := cz2 BKb4)
    | ((with_reducible refine gate_dst (N := 5) rfl ?_); (try (refine gate_guard (by rfl) ?_; dsimp only)); refine box_event ?hg (N := 5) ?hd (cs := #[.bool zn, .slice Az lz.length cz]) (t := 24) ?hr ?_; (case hd => rfl); (case hg => rfl); (case hr => first | (go_simp; done) | (go_simp; rfl)); intro b5 hg wa3 hbox hb; have K_ := Kept.of_below hb (fun _ => False); replace BKb3 := mvB BKb3 K_; replace BKb4 := mvB BKb4 K_; replace Z := zA Z (K_.1); replace Z := zA Z (Nat.le_of_eq hg.symm); replace Z := zA Z (Nat.le_of_eq hg); replace Z := zA Z (blk_lt hbox); replace HBW := bS HBW hb; have BKb5 := Aside0.mk hbox; clear hb hbox hg K_; clear zb30 zb31 zb40 zb41; obtain ⟨zb30, zb31⟩ := cz2 BKb3; obtain ⟨zb40, zb41⟩ := cz2 BKb4; obtain ⟨zb50, zb51⟩ := cz2 BKb5)
    | ((with_reducible refine gate_dst (N := 14) rfl ?_); (try (refine gate_guard (by rfl) ?_; dsimp only)); refine goesL_ (some 14) rfl rfl Try.func43 (by kernel_rfl) rfl #[.agg #[.bool xn, .slice Ax lx.length cx]] rfl (by (try simp only [List.map_toArray, List.map_cons, List.map_nil]); first | done | rfl | (simp only [List.length_drop, List.length_take]; rfl)) ?_; refine (lapidarylaw02_small.calls xn _ _ lx true _ (Kd.C_below Hx.out HBW.out) Cx.out hs0.out).mono ?_; rintro e wa4 ⟨rfl, hb⟩; refine ⟨_, rfl, ?_⟩; have K_ := Kept.of_below hb (fun _ => False); replace BKb3 := mvB BKb3 K_; replace BKb4 := mvB BKb4 K_; replace BKb5 := mvB BKb5 K_; replace Z := zA Z (K_.1); replace HBW := bS HBW hb; clear hb K_; clear zb30 zb31 zb40 zb41 zb50 zb51; obtain ⟨zb30, zb31⟩ := cz2 BKb3; obtain ⟨zb40, zb41⟩ := cz2 BKb4; obtain ⟨zb50, zb51⟩ := cz2 BKb5)
    | ((with_reducible refine gate_dst (N := 18) rfl ?_); (try (refine gate_guard (by rfl) ?_; dsimp only)); refine goesL_ (some 18) rfl rfl Try.func43 (by kernel_rfl) rfl #[.agg #[.bool yn, .slice Ay ly.length cy]] rfl (by (try simp only [List.map_toArray, List.map_cons, List.map_nil]); first | done | rfl | (simp only [List.length_drop, List.length_take]; rfl)) ?_; refine (lapidarylaw02_small.calls yn _ _ ly false _ (Kd.C_below Hy.out HBW.out) Cy.out hs1.out).mono ?_; rintro e wa5 ⟨rfl, hb⟩; refine ⟨_, rfl, ?_⟩; have K_ := Kept.of_below hb (fun _ => False); replace BKb3 := mvB BKb3 K_; replace BKb4 := mvB BKb4 K_; replace BKb5 := mvB BKb5 K_; replace Z := zA Z (K_.1); replace HBW := bS HBW hb; clear hb K_; clear zb30 zb31 zb40 zb41 zb50 zb51; obtain ⟨zb30, zb31⟩ := cz2 BKb3; obtain ⟨zb40, zb41⟩ := cz2 BKb4; obtain ⟨zb50, zb51⟩ := cz2 BKb5)
    | ((with_reducible refine gate_dst (N := 26) rfl ?_); (try (refine gate_guard (by rfl) ?_; dsimp only)); refine goesL_ (some 26) rfl rfl Try.func25 (by kernel_rfl) rfl #[] rfl (by (try simp only [List.map_toArray, List.map_cons, List.map_nil]); first | done | rfl | (simp only [List.length_drop, List.length_take]; rfl)) ?_; refine (law_known _).mono ?_; rintro e wa6 ⟨rfl, hb⟩; refine ⟨_, rfl, ?_⟩; have K_ := Kept.of_below hb (fun _ => False); replace BKb3 := mvB BKb3 K_; replace BKb4 := mvB BKb4 K_; replace BKb5 := mvB BKb5 K_; replace Z := zA Z (K_.1); replace HBW := bS HBW hb; clear hb K_; clear zb30 zb31 zb40 zb41 zb50 zb51; obtain ⟨zb30, zb31⟩ := cz2 BKb3; obtain ⟨zb40, zb41⟩ := cz2 BKb4; obtain ⟨zb50, zb51⟩ := cz2 BKb5))
  go_ret
  exact ⟨rfl, HBW.out⟩
set_option maxHeartbeats 16000000 in
set_option maxRecDepth 100000 in
theorem order_not2 (xn : Bool) (Ax : Option Addr) (cx : Nat) (lx : List Int) (yn : Bool) (Ay : Option Addr) (cy : Nat) (ly : List Int) (zn : Bool) (Az : Option Addr) (cz : Nat) (lz : List Int) (w : World) (hrx : Kd.C (Kd.int .u8) w Ax lx.length lx) (hcx : lx.length ≤ cx) (hAx : Ax = none → cx = 0) (hlx : lx.length ≤ 140737488351232) (hry : Kd.C (Kd.int .u8) w Ay ly.length ly) (hcy : ly.length ≤ cy) (hAy : Ay = none → cy = 0) (hly : ly.length ≤ 140737488351232) (hrz : Kd.C (Kd.int .u8) w Az lz.length lz) (hcz : lz.length ≤ cz) (hAz : Az = none → cz = 0) (hlz : lz.length ≤ 140737488351232) (hs0 : lapidarylaw02_small.f xn lx = some true) (hs1 : lapidarylaw02_small.f yn ly = some true) (hs2 : lapidarylaw02_small.f zn lz = some false) :
    Calls Try.prog 8 #[.agg #[.bool xn, .slice Ax lx.length cx], .agg #[.bool yn, .slice Ay ly.length cy], .agg #[.bool zn, .slice Az lz.length cz]] w fun e w' => e = .returned (.bool true) ∧ Below w.heap.size w w' := by
  have hu24 := Try.underlying24
  have hu25 := Try.underlying25
  have Hx := Aside0.mk hrx
  have Cx := Aside0.mk hcx
  have Nx := Aside0.mk hAx
  have Xx := Aside0.mk hlx
  clear hrx hcx hAx hlx
  have Hy := Aside0.mk hry
  have Cy := Aside0.mk hcy
  have Ny := Aside0.mk hAy
  have Xy := Aside0.mk hly
  clear hry hcy hAy hly
  have Hz := Aside0.mk hrz
  have Cz := Aside0.mk hcz
  have Nz := Aside0.mk hAz
  have Xz := Aside0.mk hlz
  clear hrz hcz hAz hlz
  have n_ := Aside0.mk hs0
  clear hs0
  have hs0 := n_
  clear n_
  have n_ := Aside0.mk hs1
  clear hs1
  have hs1 := n_
  clear n_
  have n_ := Aside0.mk hs2
  clear hs2
  have hs2 := n_
  clear n_
  have HBW := Aside0.mk (Below.refl w.heap.size w)
  have Z := Aside0.mk (show w.heap.size ≤ w.heap.size from Nat.le_refl _)
  go_enter Try.func8, Try.ntmps8
  go_wp2_with (first
    | ((with_reducible refine gate_dst (N := 3) rfl ?_); (try (refine gate_guard (by rfl) ?_; dsimp only)); refine box_event ?hg (N := 3) ?hd (cs := #[.bool xn, .slice Ax lx.length cx]) (t := 24) ?hr ?_; (case hd => rfl); (case hg => rfl); (case hr => first | (go_simp; done) | (go_simp; rfl)); intro b3 hg wa1 hbox hb; have K_ := Kept.of_below hb (fun _ => False); replace Z := zA Z (K_.1); replace Z := zA Z (Nat.le_of_eq hg.symm); replace Z := zA Z (Nat.le_of_eq hg); replace Z := zA Z (blk_lt hbox); replace HBW := bS HBW hb; have BKb3 := Aside0.mk hbox; clear hb hbox hg K_; obtain ⟨zb30, zb31⟩ := cz2 BKb3)
    | ((with_reducible refine gate_dst (N := 4) rfl ?_); (try (refine gate_guard (by rfl) ?_; dsimp only)); refine box_event ?hg (N := 4) ?hd (cs := #[.bool yn, .slice Ay ly.length cy]) (t := 24) ?hr ?_; (case hd => rfl); (case hg => rfl); (case hr => first | (go_simp; done) | (go_simp; rfl)); intro b4 hg wa2 hbox hb; have K_ := Kept.of_below hb (fun _ => False); replace BKb3 := mvB BKb3 K_; replace Z := zA Z (K_.1); replace Z := zA Z (Nat.le_of_eq hg.symm); replace Z := zA Z (Nat.le_of_eq hg); replace Z := zA Z (blk_lt hbox); replace HBW := bS HBW hb; have BKb4 := Aside0.mk hbox; clear hb hbox hg K_; clear zb30 zb31; obtain ⟨zb30, zb31⟩ := cz2 BKb3; obtain ⟨zb40, zb41⟩ := cz2 BKb4)
    | ((with_reducible refine gate_dst (N := 5) rfl ?_); (try (refine gate_guard (by rfl) ?_; dsimp only)); refine box_event ?hg (N := 5) ?hd (cs := #[.bool zn, .slice Az lz.length cz]) (t := 24) ?hr ?_; (case hd => rfl); (case hg => rfl); (case hr => first | (go_simp; done) | (go_simp; rfl)); intro b5 hg wa3 hbox hb; have K_ := Kept.of_below hb (fun _ => False); replace BKb3 := mvB BKb3 K_; replace BKb4 := mvB BKb4 K_; replace Z := zA Z (K_.1); replace Z := zA Z (Nat.le_of_eq hg.symm); replace Z := zA Z (Nat.le_of_eq hg); replace Z := zA Z (blk_lt hbox); replace HBW := bS HBW hb; have BKb5 := Aside0.mk hbox; clear hb hbox hg K_; clear zb30 zb31 zb40 zb41; obtain ⟨zb30, zb31⟩ := cz2 BKb3; obtain ⟨zb40, zb41⟩ := cz2 BKb4; obtain ⟨zb50, zb51⟩ := cz2 BKb5)
    | ((with_reducible refine gate_dst (N := 14) rfl ?_); (try (refine gate_guard (by rfl) ?_; dsimp only)); refine goesL_ (some 14) rfl rfl Try.func43 (by kernel_rfl) rfl #[.agg #[.bool xn, .slice Ax lx.length cx]] rfl (by (try simp only [List.map_toArray, List.map_cons, List.map_nil]); first | done | rfl | (simp only [List.length_drop, List.length_take]; rfl)) ?_; refine (lapidarylaw02_small.calls xn _ _ lx true _ (Kd.C_below Hx.out HBW.out) Cx.out hs0.out).mono ?_; rintro e wa4 ⟨rfl, hb⟩; refine ⟨_, rfl, ?_⟩; have K_ := Kept.of_below hb (fun _ => False); replace BKb3 := mvB BKb3 K_; replace BKb4 := mvB BKb4 K_; replace BKb5 := mvB BKb5 K_; replace Z := zA Z (K_.1); replace HBW := bS HBW hb; clear hb K_; clear zb30 zb31 zb40 zb41 zb50 zb51; obtain ⟨zb30, zb31⟩ := cz2 BKb3; obtain ⟨zb40, zb41⟩ := cz2 BKb4; obtain ⟨zb50, zb51⟩ := cz2 BKb5)
    | ((with_reducible refine gate_dst (N := 18) rfl ?_); (try (refine gate_guard (by rfl) ?_; dsimp only)); refine goesL_ (some 18) rfl rfl Try.func43 (by kernel_rfl) rfl #[.agg #[.bool yn, .slice Ay ly.length cy]] rfl (by (try simp only [List.map_toArray, List.map_cons, List.map_nil]); first | done | rfl | (simp only [List.length_drop, List.length_take]; rfl)) ?_; refine (lapidarylaw02_small.calls yn _ _ ly true _ (Kd.C_below Hy.out HBW.out) Cy.out hs1.out).mono ?_; rintro e wa5 ⟨rfl, hb⟩; refine ⟨_, rfl, ?_⟩; have K_ := Kept.of_below hb (fun _ => False); replace BKb3 := mvB BKb3 K_; replace BKb4 := mvB BKb4 K_; replace BKb5 := mvB BKb5 K_; replace Z := zA Z (K_.1); replace HBW := bS HBW hb; clear hb K_; clear zb30 zb31 zb40 zb41 zb50 zb51; obtain ⟨zb30, zb31⟩ := cz2 BKb3; obtain ⟨zb40, zb41⟩ := cz2 BKb4; obtain ⟨zb50, zb51⟩ := cz2 BKb5)
    | ((with_reducible refine gate_dst (N := 23) rfl ?_); (try (refine gate_guard (by rfl) ?_; dsimp only)); refine goesL_ (some 23) rfl rfl Try.func43 (by kernel_rfl) rfl #[.agg #[.bool zn, .slice Az lz.length cz]] rfl (by (try simp only [List.map_toArray, List.map_cons, List.map_nil]); first | done | rfl | (simp only [List.length_drop, List.length_take]; rfl)) ?_; refine (lapidarylaw02_small.calls zn _ _ lz false _ (Kd.C_below Hz.out HBW.out) Cz.out hs2.out).mono ?_; rintro e wa6 ⟨rfl, hb⟩; refine ⟨_, rfl, ?_⟩; have K_ := Kept.of_below hb (fun _ => False); replace BKb3 := mvB BKb3 K_; replace BKb4 := mvB BKb4 K_; replace BKb5 := mvB BKb5 K_; replace Z := zA Z (K_.1); replace HBW := bS HBW hb; clear hb K_; clear zb30 zb31 zb40 zb41 zb50 zb51; obtain ⟨zb30, zb31⟩ := cz2 BKb3; obtain ⟨zb40, zb41⟩ := cz2 BKb4; obtain ⟨zb50, zb51⟩ := cz2 BKb5)
    | ((with_reducible refine gate_dst (N := 26) rfl ?_); (try (refine gate_guard (by rfl) ?_; dsimp only)); refine goesL_ (some 26) rfl rfl Try.func25 (by kernel_rfl) rfl #[] rfl (by (try simp only [List.map_toArray, List.map_cons, List.map_nil]); first | done | rfl | (simp only [List.length_drop, List.length_take]; rfl)) ?_; refine (law_known _).mono ?_; rintro e wa7 ⟨rfl, hb⟩; refine ⟨_, rfl, ?_⟩; have K_ := Kept.of_below hb (fun _ => False); replace BKb3 := mvB BKb3 K_; replace BKb4 := mvB BKb4 K_; replace BKb5 := mvB BKb5 K_; replace Z := zA Z (K_.1); replace HBW := bS HBW hb; clear hb K_; clear zb30 zb31 zb40 zb41 zb50 zb51; obtain ⟨zb30, zb31⟩ := cz2 BKb3; obtain ⟨zb40, zb41⟩ := cz2 BKb4; obtain ⟨zb50, zb51⟩ := cz2 BKb5))
  go_ret
  exact ⟨rfl, HBW.out⟩
set_option maxHeartbeats 16000000 in
set_option maxRecDepth 100000 in
theorem order_walk (xn : Bool) (Ax : Option Addr) (cx : Nat) (lx : List Int) (yn : Bool) (Ay : Option Addr) (cy : Nat) (ly : List Int) (zn : Bool) (Az : Option Addr) (cz : Nat) (lz : List Int) (k1 k2 k3 k4 k5 k6 k7 : Nat) (jd : Bool) (ld : List Int) (jo : Bool) (lo : List Int) (c c' cyz cxz : Int) (bm : Bool) (w : World) (hrx : Kd.C (Kd.int .u8) w Ax lx.length lx) (hcx : lx.length ≤ cx) (hAx : Ax = none → cx = 0) (hlx : lx.length ≤ 140737488351232) (hry : Kd.C (Kd.int .u8) w Ay ly.length ly) (hcy : ly.length ≤ cy) (hAy : Ay = none → cy = 0) (hly : ly.length ≤ 140737488351232) (hrz : Kd.C (Kd.int .u8) w Az lz.length lz) (hcz : lz.length ≤ cz) (hAz : Az = none → cz = 0) (hlz : lz.length ≤ 140737488351232) (hs0 : lapidarylaw02_small.f xn lx = some true) (hs1 : lapidarylaw02_small.f yn ly = some true) (hs2 : lapidarylaw02_small.f zn lz = some true) (h1 : whole_Sub.f k1 xn lx yn ly = some (jd, ld, 0)) (h2 : whole_Cmp.f k2 xn lx yn ly = some c) (h3 : whole_Of.f k3 0 = some (jo, lo)) (h4 : whole_Cmp.f k4 jd ld jo lo = some c) (h5 : whole_Cmp.f k5 yn ly xn lx = some c') (h6 : whole_Cmp.f k6 yn ly zn lz = some cyz) (h7 : whole_Cmp.f k7 xn lx zn lz = some cxz) (hc : (c = -1 ∧ c' = 1 ∧ bm = false) ∨ (c = 0 ∧ c' = 0 ∧ bm = true) ∨ (c = 1 ∧ c' = -1 ∧ bm = false)) (hm : lapidaryref02_Same.f xn lx yn ly = some bm) (ht : c > 0 ∨ cyz > 0 ∨ (¬ cyz > 0 ∧ cxz ≤ 0)) :
    Calls Try.prog 8 #[.agg #[.bool xn, .slice Ax lx.length cx], .agg #[.bool yn, .slice Ay ly.length cy], .agg #[.bool zn, .slice Az lz.length cz]] w fun e w' => e = .returned (.bool true) ∧ Below w.heap.size w w' := by
  have hu24 := Try.underlying24
  have hu25 := Try.underlying25
  have Hx := Aside0.mk hrx
  have Cx := Aside0.mk hcx
  have Nx := Aside0.mk hAx
  have Xx := Aside0.mk hlx
  clear hrx hcx hAx hlx
  have Hy := Aside0.mk hry
  have Cy := Aside0.mk hcy
  have Ny := Aside0.mk hAy
  have Xy := Aside0.mk hly
  clear hry hcy hAy hly
  have Hz := Aside0.mk hrz
  have Cz := Aside0.mk hcz
  have Nz := Aside0.mk hAz
  have Xz := Aside0.mk hlz
  clear hrz hcz hAz hlz
  have n_ := Aside0.mk hs0
  clear hs0
  have hs0 := n_
  clear n_
  have n_ := Aside0.mk hs1
  clear hs1
  have hs1 := n_
  clear n_
  have n_ := Aside0.mk hs2
  clear hs2
  have hs2 := n_
  clear n_
  have n_ := Aside0.mk h1
  clear h1
  have h1 := n_
  clear n_
  have n_ := Aside0.mk h2
  clear h2
  have h2 := n_
  clear n_
  have n_ := Aside0.mk h3
  clear h3
  have h3 := n_
  clear n_
  have n_ := Aside0.mk h4
  clear h4
  have h4 := n_
  clear n_
  have n_ := Aside0.mk h5
  clear h5
  have h5 := n_
  clear n_
  have n_ := Aside0.mk h6
  clear h6
  have h6 := n_
  clear n_
  have n_ := Aside0.mk h7
  clear h7
  have h7 := n_
  clear n_
  have n_ := Aside0.mk hc
  clear hc
  have hc := n_
  clear n_
  have n_ := Aside0.mk hm
  clear hm
  have hm := n_
  clear n_
  have n_ := Aside0.mk ht
  clear ht
  have ht := n_
  clear n_
  have HBW := Aside0.mk (Below.refl w.heap.size w)
  have Z := Aside0.mk (show w.heap.size ≤ w.heap.size from Nat.le_refl _)
  go_enter Try.func8, Try.ntmps8
  go_wp2_with (first
    | ((with_reducible refine gate_dst (N := 3) rfl ?_); (try (refine gate_guard (by rfl) ?_; dsimp only)); refine box_event ?hg (N := 3) ?hd (cs := #[.bool xn, .slice Ax lx.length cx]) (t := 24) ?hr ?_; (case hd => rfl); (case hg => rfl); (case hr => first | (go_simp; done) | (go_simp; rfl)); intro b3 hg wa1 hbox hb; have K_ := Kept.of_below hb (fun _ => False); replace Z := zA Z (K_.1); replace Z := zA Z (Nat.le_of_eq hg.symm); replace Z := zA Z (Nat.le_of_eq hg); replace Z := zA Z (blk_lt hbox); replace HBW := bS HBW hb; have BKb3 := Aside0.mk hbox; clear hb hbox hg K_; obtain ⟨zb30, zb31⟩ := cz2 BKb3)
    | ((with_reducible refine gate_dst (N := 4) rfl ?_); (try (refine gate_guard (by rfl) ?_; dsimp only)); refine box_event ?hg (N := 4) ?hd (cs := #[.bool yn, .slice Ay ly.length cy]) (t := 24) ?hr ?_; (case hd => rfl); (case hg => rfl); (case hr => first | (go_simp; done) | (go_simp; rfl)); intro b4 hg wa2 hbox hb; have K_ := Kept.of_below hb (fun _ => False); replace BKb3 := mvB BKb3 K_; replace Z := zA Z (K_.1); replace Z := zA Z (Nat.le_of_eq hg.symm); replace Z := zA Z (Nat.le_of_eq hg); replace Z := zA Z (blk_lt hbox); replace HBW := bS HBW hb; have BKb4 := Aside0.mk hbox; clear hb hbox hg K_; clear zb30 zb31; obtain ⟨zb30, zb31⟩ := cz2 BKb3; obtain ⟨zb40, zb41⟩ := cz2 BKb4)
    | ((with_reducible refine gate_dst (N := 5) rfl ?_); (try (refine gate_guard (by rfl) ?_; dsimp only)); refine box_event ?hg (N := 5) ?hd (cs := #[.bool zn, .slice Az lz.length cz]) (t := 24) ?hr ?_; (case hd => rfl); (case hg => rfl); (case hr => first | (go_simp; done) | (go_simp; rfl)); intro b5 hg wa3 hbox hb; have K_ := Kept.of_below hb (fun _ => False); replace BKb3 := mvB BKb3 K_; replace BKb4 := mvB BKb4 K_; replace Z := zA Z (K_.1); replace Z := zA Z (Nat.le_of_eq hg.symm); replace Z := zA Z (Nat.le_of_eq hg); replace Z := zA Z (blk_lt hbox); replace HBW := bS HBW hb; have BKb5 := Aside0.mk hbox; clear hb hbox hg K_; clear zb30 zb31 zb40 zb41; obtain ⟨zb30, zb31⟩ := cz2 BKb3; obtain ⟨zb40, zb41⟩ := cz2 BKb4; obtain ⟨zb50, zb51⟩ := cz2 BKb5)
    | ((with_reducible refine gate_dst (N := 14) rfl ?_); (try (refine gate_guard (by rfl) ?_; dsimp only)); refine goesL_ (some 14) rfl rfl Try.func43 (by kernel_rfl) rfl #[.agg #[.bool xn, .slice Ax lx.length cx]] rfl (by (try simp only [List.map_toArray, List.map_cons, List.map_nil]); first | done | rfl | (simp only [List.length_drop, List.length_take]; rfl)) ?_; refine (lapidarylaw02_small.calls xn _ _ lx true _ (Kd.C_below Hx.out HBW.out) Cx.out hs0.out).mono ?_; rintro e wa4 ⟨rfl, hb⟩; refine ⟨_, rfl, ?_⟩; have K_ := Kept.of_below hb (fun _ => False); replace BKb3 := mvB BKb3 K_; replace BKb4 := mvB BKb4 K_; replace BKb5 := mvB BKb5 K_; replace Z := zA Z (K_.1); replace HBW := bS HBW hb; clear hb K_; clear zb30 zb31 zb40 zb41 zb50 zb51; obtain ⟨zb30, zb31⟩ := cz2 BKb3; obtain ⟨zb40, zb41⟩ := cz2 BKb4; obtain ⟨zb50, zb51⟩ := cz2 BKb5)
    | ((with_reducible refine gate_dst (N := 18) rfl ?_); (try (refine gate_guard (by rfl) ?_; dsimp only)); refine goesL_ (some 18) rfl rfl Try.func43 (by kernel_rfl) rfl #[.agg #[.bool yn, .slice Ay ly.length cy]] rfl (by (try simp only [List.map_toArray, List.map_cons, List.map_nil]); first | done | rfl | (simp only [List.length_drop, List.length_take]; rfl)) ?_; refine (lapidarylaw02_small.calls yn _ _ ly true _ (Kd.C_below Hy.out HBW.out) Cy.out hs1.out).mono ?_; rintro e wa5 ⟨rfl, hb⟩; refine ⟨_, rfl, ?_⟩; have K_ := Kept.of_below hb (fun _ => False); replace BKb3 := mvB BKb3 K_; replace BKb4 := mvB BKb4 K_; replace BKb5 := mvB BKb5 K_; replace Z := zA Z (K_.1); replace HBW := bS HBW hb; clear hb K_; clear zb30 zb31 zb40 zb41 zb50 zb51; obtain ⟨zb30, zb31⟩ := cz2 BKb3; obtain ⟨zb40, zb41⟩ := cz2 BKb4; obtain ⟨zb50, zb51⟩ := cz2 BKb5)
    | ((with_reducible refine gate_dst (N := 23) rfl ?_); (try (refine gate_guard (by rfl) ?_; dsimp only)); refine goesL_ (some 23) rfl rfl Try.func43 (by kernel_rfl) rfl #[.agg #[.bool zn, .slice Az lz.length cz]] rfl (by (try simp only [List.map_toArray, List.map_cons, List.map_nil]); first | done | rfl | (simp only [List.length_drop, List.length_take]; rfl)) ?_; refine (lapidarylaw02_small.calls zn _ _ lz true _ (Kd.C_below Hz.out HBW.out) Cz.out hs2.out).mono ?_; rintro e wa6 ⟨rfl, hb⟩; refine ⟨_, rfl, ?_⟩; have K_ := Kept.of_below hb (fun _ => False); replace BKb3 := mvB BKb3 K_; replace BKb4 := mvB BKb4 K_; replace BKb5 := mvB BKb5 K_; replace Z := zA Z (K_.1); replace HBW := bS HBW hb; clear hb K_; clear zb30 zb31 zb40 zb41 zb50 zb51; obtain ⟨zb30, zb31⟩ := cz2 BKb3; obtain ⟨zb40, zb41⟩ := cz2 BKb4; obtain ⟨zb50, zb51⟩ := cz2 BKb5)
    | ((with_reducible refine gate_dst (N := 28) rfl ?_); (try (refine gate_guard (by rfl) ?_; dsimp only)); refine goesL_ (some 28) rfl rfl Try.func19 (by kernel_rfl) rfl #[.agg #[.bool xn, .slice Ax lx.length cx]] rfl (by (try simp only [List.map_toArray, List.map_cons, List.map_nil]); first | done | rfl | (simp only [List.length_drop, List.length_take]; rfl)) ?_; refine (lapidarylaw02_given.calls xn Ax cx lx _ (Kd.C_below Hx.out HBW.out) Cx.out Nx.out Xx.out).mono ?_; rintro e wa7 ⟨gu, rfl, hge, hL, hb⟩; refine ⟨_, rfl, ?_⟩; have K_ := Kept.of_below hb (fun _ => False); replace BKb3 := mvB BKb3 K_; replace BKb4 := mvB BKb4 K_; replace BKb5 := mvB BKb5 K_; replace Z := zA Z (K_.1); replace HBW := bS HBW hb; replace Z := zA Z (hge); replace Z := zA Z (blk_lt (hL : wa7.heap[gu]? = _)); have Lu := Aside0.mk hL; clear hge hL; clear hb K_; clear zb30 zb31 zb40 zb41 zb50 zb51; obtain ⟨zb30, zb31⟩ := cz2 BKb3; obtain ⟨zb40, zb41⟩ := cz2 BKb4; obtain ⟨zb50, zb51⟩ := cz2 BKb5)
    | ((with_reducible refine gate_dst (N := 7) rfl ?_); (try (refine gate_guard (by rfl) ?_; dsimp only)); refine box_event ?hg (N := 7) ?hd (cs := #[.bool false, .slice none 0 0]) (t := 25) ?hr ?_; (case hd => rfl); (case hg => rfl); (case hr => first | (go_simp; done) | (go_simp; rfl)); intro bu hg wa8 hbox hb; have K_ := Kept.of_below hb (fun _ => False); replace BKb3 := mvB BKb3 K_; replace BKb4 := mvB BKb4 K_; replace BKb5 := mvB BKb5 K_; replace Z := zA Z (K_.1); replace Z := zA Z (Nat.le_of_eq hg.symm); replace Z := zA Z (Nat.le_of_eq hg); replace Z := zA Z (blk_lt hbox); have BKbu := Aside0.mk hbox; have PB_ := Aside0.mk hb; have PG_ := Aside0.mk (Nat.le_of_eq hg.symm); clear hb hbox hg K_; clear zb30 zb31 zb40 zb41 zb50 zb51; obtain ⟨zb30, zb31⟩ := cz2 BKb3; obtain ⟨zb40, zb41⟩ := cz2 BKb4; obtain ⟨zb50, zb51⟩ := cz2 BKb5; obtain ⟨zbu0, zbu1⟩ := cz2 BKbu; obtain ⟨fbu0, fbu1⟩ := fz2 BKbu; have nbub3 : bu ≠ b3 := (by have hZ := Z.out; omega); have nb3bu := nbub3.symm; have nbub4 : bu ≠ b4 := (by have hZ := Z.out; omega); have nb4bu := nbub4.symm; have nbub5 : bu ≠ b5 := (by have hZ := Z.out; omega); have nb5bu := nbub5.symm)
    | ((with_reducible refine gate_dst (N := 30) rfl ?_); (try (refine gate_guard (by rfl) ?_; dsimp only)); have NB_ := put2 (a' := .bool xn) (b' := .slice (some ⟨gu, 0, none⟩) lx.length (lx.length + 8)) BKbu; have K_ := kp2 (w := wa8) (g := bu) (a := .bool xn) (b := .slice (some ⟨gu, 0, none⟩) lx.length (lx.length + 8)); have hb := bw2 (a := .bool xn) (b := .slice (some ⟨gu, 0, none⟩) lx.length (lx.length + 8)) PB_.out PG_.out; obtain ⟨wa9, hwS⟩ : ∃ W_, W_ = (World.setCell (World.setCell wa8 ⟨bu, 0, none⟩ (.bool xn)) ⟨bu, 1, none⟩ (.slice (some ⟨gu, 0, none⟩) lx.length (lx.length + 8))) := ⟨_, rfl⟩; rw [← hwS] at NB_ K_ hb ⊢; clear hwS; replace BKb3 := sB BKb3 K_ nb3bu; replace BKb4 := sB BKb4 K_ nb4bu; replace BKb5 := sB BKb5 K_ nb5bu; replace Z := zA Z (K_.1); clear K_ BKbu; have BKbu := NB_; have K_ := Kept.of_below hb (fun _ => False); replace Lu := mvL Lu K_; replace Z := zA Z (K_.1); replace HBW := bS HBW hb; clear K_ NB_ hb PB_ PG_; clear zb30 zb31 zb40 zb41 zb50 zb51 zbu0 zbu1 fbu0 fbu1 nbub3 nb3bu nbub4 nb4bu nbub5 nb5bu; obtain ⟨zb30, zb31⟩ := cz2 BKb3; obtain ⟨zb40, zb41⟩ := cz2 BKb4; obtain ⟨zb50, zb51⟩ := cz2 BKb5; obtain ⟨zbu0, zbu1⟩ := cz2 BKbu; clear BKb3; refine goesL_ (some 30) rfl rfl Try.func19 (by kernel_rfl) rfl #[.agg #[.bool yn, .slice Ay ly.length cy]] rfl (by (try simp only [List.map_toArray, List.map_cons, List.map_nil]); first | done | rfl | (simp only [List.length_drop, List.length_take]; rfl)) ?_; refine (lapidarylaw02_given.calls yn Ay cy ly _ (Kd.C_below Hy.out HBW.out) Cy.out Ny.out Xy.out).mono ?_; rintro e wa10 ⟨gv, rfl, hge, hL, hb⟩; refine ⟨_, rfl, ?_⟩; have K_ := Kept.of_below hb (fun _ => False); replace BKb4 := mvB BKb4 K_; replace BKb5 := mvB BKb5 K_; replace BKbu := mvB BKbu K_; replace Lu := mvL Lu K_; replace Z := zA Z (K_.1); replace HBW := bS HBW hb; replace Z := zA Z (hge); replace Z := zA Z (blk_lt (hL : wa10.heap[gv]? = _)); have Lv := Aside0.mk hL; clear hge hL; clear hb K_; clear zb30 zb31 zb40 zb41 zb50 zb51 zbu0 zbu1; obtain ⟨zb40, zb41⟩ := cz2 BKb4; obtain ⟨zb50, zb51⟩ := cz2 BKb5; obtain ⟨zbu0, zbu1⟩ := cz2 BKbu)
    | ((with_reducible refine gate_dst (N := 8) rfl ?_); (try (refine gate_guard (by rfl) ?_; dsimp only)); refine box_event ?hg (N := 8) ?hd (cs := #[.bool false, .slice none 0 0]) (t := 25) ?hr ?_; (case hd => rfl); (case hg => rfl); (case hr => first | (go_simp; done) | (go_simp; rfl)); intro bv hg wa11 hbox hb; have K_ := Kept.of_below hb (fun _ => False); replace BKb4 := mvB BKb4 K_; replace BKb5 := mvB BKb5 K_; replace BKbu := mvB BKbu K_; replace Z := zA Z (K_.1); replace Z := zA Z (Nat.le_of_eq hg.symm); replace Z := zA Z (Nat.le_of_eq hg); replace Z := zA Z (blk_lt hbox); have BKbv := Aside0.mk hbox; have PB_ := Aside0.mk hb; have PG_ := Aside0.mk (Nat.le_of_eq hg.symm); clear hb hbox hg K_; clear zb40 zb41 zb50 zb51 zbu0 zbu1; obtain ⟨zb40, zb41⟩ := cz2 BKb4; obtain ⟨zb50, zb51⟩ := cz2 BKb5; obtain ⟨zbu0, zbu1⟩ := cz2 BKbu; obtain ⟨zbv0, zbv1⟩ := cz2 BKbv; obtain ⟨fbv0, fbv1⟩ := fz2 BKbv; have nbvb4 : bv ≠ b4 := (by have hZ := Z.out; omega); have nb4bv := nbvb4.symm; have nbvb5 : bv ≠ b5 := (by have hZ := Z.out; omega); have nb5bv := nbvb5.symm; have nbvbu : bv ≠ bu := (by have hZ := Z.out; omega); have nbubv := nbvbu.symm)
    | ((with_reducible refine gate_dst (N := 32) rfl ?_); (try (refine gate_guard (by rfl) ?_; dsimp only)); have NB_ := put2 (a' := .bool yn) (b' := .slice (some ⟨gv, 0, none⟩) ly.length (ly.length + 8)) BKbv; have K_ := kp2 (w := wa11) (g := bv) (a := .bool yn) (b := .slice (some ⟨gv, 0, none⟩) ly.length (ly.length + 8)); have hb := bw2 (a := .bool yn) (b := .slice (some ⟨gv, 0, none⟩) ly.length (ly.length + 8)) PB_.out PG_.out; obtain ⟨wa12, hwS⟩ : ∃ W_, W_ = (World.setCell (World.setCell wa11 ⟨bv, 0, none⟩ (.bool yn)) ⟨bv, 1, none⟩ (.slice (some ⟨gv, 0, none⟩) ly.length (ly.length + 8))) := ⟨_, rfl⟩; rw [← hwS] at NB_ K_ hb ⊢; clear hwS; replace BKb4 := sB BKb4 K_ nb4bv; replace BKb5 := sB BKb5 K_ nb5bv; replace BKbu := sB BKbu K_ nbubv; replace Z := zA Z (K_.1); clear K_ BKbv; have BKbv := NB_; have K_ := Kept.of_below hb (fun _ => False); replace Lu := mvL Lu K_; replace Lv := mvL Lv K_; replace Z := zA Z (K_.1); replace HBW := bS HBW hb; clear K_ NB_ hb PB_ PG_; clear zb40 zb41 zb50 zb51 zbu0 zbu1 zbv0 zbv1 fbv0 fbv1 nbvb4 nb4bv nbvb5 nb5bv nbvbu nbubv; obtain ⟨zb40, zb41⟩ := cz2 BKb4; obtain ⟨zb50, zb51⟩ := cz2 BKb5; obtain ⟨zbu0, zbu1⟩ := cz2 BKbu; obtain ⟨zbv0, zbv1⟩ := cz2 BKbv; clear BKb4; refine goesL_ (some 32) rfl rfl Try.func19 (by kernel_rfl) rfl #[.agg #[.bool zn, .slice Az lz.length cz]] rfl (by (try simp only [List.map_toArray, List.map_cons, List.map_nil]); first | done | rfl | (simp only [List.length_drop, List.length_take]; rfl)) ?_; refine (lapidarylaw02_given.calls zn Az cz lz _ (Kd.C_below Hz.out HBW.out) Cz.out Nz.out Xz.out).mono ?_; rintro e wa13 ⟨gt, rfl, hge, hL, hb⟩; refine ⟨_, rfl, ?_⟩; have K_ := Kept.of_below hb (fun _ => False); replace BKb5 := mvB BKb5 K_; replace BKbu := mvB BKbu K_; replace BKbv := mvB BKbv K_; replace Lu := mvL Lu K_; replace Lv := mvL Lv K_; replace Z := zA Z (K_.1); replace HBW := bS HBW hb; replace Z := zA Z (hge); replace Z := zA Z (blk_lt (hL : wa13.heap[gt]? = _)); have Lt := Aside0.mk hL; clear hge hL; clear hb K_; clear zb40 zb41 zb50 zb51 zbu0 zbu1 zbv0 zbv1; obtain ⟨zb50, zb51⟩ := cz2 BKb5; obtain ⟨zbu0, zbu1⟩ := cz2 BKbu; obtain ⟨zbv0, zbv1⟩ := cz2 BKbv)
    | ((with_reducible refine gate_dst (N := 9) rfl ?_); (try (refine gate_guard (by rfl) ?_; dsimp only)); refine box_event ?hg (N := 9) ?hd (cs := #[.bool false, .slice none 0 0]) (t := 25) ?hr ?_; (case hd => rfl); (case hg => rfl); (case hr => first | (go_simp; done) | (go_simp; rfl)); intro bt hg wa14 hbox hb; have K_ := Kept.of_below hb (fun _ => False); replace BKb5 := mvB BKb5 K_; replace BKbu := mvB BKbu K_; replace BKbv := mvB BKbv K_; replace Z := zA Z (K_.1); replace Z := zA Z (Nat.le_of_eq hg.symm); replace Z := zA Z (Nat.le_of_eq hg); replace Z := zA Z (blk_lt hbox); have BKbt := Aside0.mk hbox; have PB_ := Aside0.mk hb; have PG_ := Aside0.mk (Nat.le_of_eq hg.symm); clear hb hbox hg K_; clear zb50 zb51 zbu0 zbu1 zbv0 zbv1; obtain ⟨zb50, zb51⟩ := cz2 BKb5; obtain ⟨zbu0, zbu1⟩ := cz2 BKbu; obtain ⟨zbv0, zbv1⟩ := cz2 BKbv; obtain ⟨zbt0, zbt1⟩ := cz2 BKbt; obtain ⟨fbt0, fbt1⟩ := fz2 BKbt; have nbtb5 : bt ≠ b5 := (by have hZ := Z.out; omega); have nb5bt := nbtb5.symm; have nbtbu : bt ≠ bu := (by have hZ := Z.out; omega); have nbubt := nbtbu.symm; have nbtbv : bt ≠ bv := (by have hZ := Z.out; omega); have nbvbt := nbtbv.symm)
    | ((with_reducible refine gate_dst (N := 36) rfl ?_); (try (refine gate_guard (by rfl) ?_; dsimp only)); have NB_ := put2 (a' := .bool zn) (b' := .slice (some ⟨gt, 0, none⟩) lz.length (lz.length + 8)) BKbt; have K_ := kp2 (w := wa14) (g := bt) (a := .bool zn) (b := .slice (some ⟨gt, 0, none⟩) lz.length (lz.length + 8)); have hb := bw2 (a := .bool zn) (b := .slice (some ⟨gt, 0, none⟩) lz.length (lz.length + 8)) PB_.out PG_.out; obtain ⟨wa15, hwS⟩ : ∃ W_, W_ = (World.setCell (World.setCell wa14 ⟨bt, 0, none⟩ (.bool zn)) ⟨bt, 1, none⟩ (.slice (some ⟨gt, 0, none⟩) lz.length (lz.length + 8))) := ⟨_, rfl⟩; rw [← hwS] at NB_ K_ hb ⊢; clear hwS; replace BKb5 := sB BKb5 K_ nb5bt; replace BKbu := sB BKbu K_ nbubt; replace BKbv := sB BKbv K_ nbvbt; replace Z := zA Z (K_.1); clear K_ BKbt; have BKbt := NB_; have K_ := Kept.of_below hb (fun _ => False); replace Lu := mvL Lu K_; replace Lv := mvL Lv K_; replace Lt := mvL Lt K_; replace Z := zA Z (K_.1); replace HBW := bS HBW hb; clear K_ NB_ hb PB_ PG_; clear zb50 zb51 zbu0 zbu1 zbv0 zbv1 zbt0 zbt1 fbt0 fbt1 nbtb5 nb5bt nbtbu nbubt nbtbv nbvbt; obtain ⟨zb50, zb51⟩ := cz2 BKb5; obtain ⟨zbu0, zbu1⟩ := cz2 BKbu; obtain ⟨zbv0, zbv1⟩ := cz2 BKbv; obtain ⟨zbt0, zbt1⟩ := cz2 BKbt; clear BKb5; refine goesL_ (some 36) rfl rfl Try.func31 (by kernel_rfl) rfl #[.agg #[.bool xn, .slice (some ⟨gu, 0, none⟩) lx.length (lx.length + 8)], .agg #[.bool yn, .slice (some ⟨gv, 0, none⟩) ly.length (ly.length + 8)]] rfl (by (try simp only [List.map_toArray, List.map_cons, List.map_nil]); first | done | rfl | (simp only [List.length_drop, List.length_take]; rfl)) ?_; refine (whole_Sub.calls k1 xn _ _ lx yn _ _ ly jd ld 0 _ (Lnt.read Lu.out Xx.out) (Nat.le_add_right _ _) (Lnt.read Lv.out Xy.out) (Nat.le_add_right _ _) h1.out).mono ?_; rintro e wa16 ⟨v_, rfl, hR, hb⟩; refine ⟨_, rfl, ?_⟩; have K_ := Kept.of_below hb (fun _ => False); replace BKbu := mvB BKbu K_; replace BKbv := mvB BKbv K_; replace BKbt := mvB BKbt K_; replace Lu := mvL Lu K_; replace Lv := mvL Lv K_; replace Lt := mvL Lt K_; replace Z := zA Z (K_.1); obtain ⟨Ad, cd, ev_, Rd⟩ := rN hR HBW; subst ev_; clear hR; replace HBW := bS HBW hb; clear hb K_; clear zb50 zb51 zbu0 zbu1 zbv0 zbv1 zbt0 zbt1; obtain ⟨zbu0, zbu1⟩ := cz2 BKbu; obtain ⟨zbv0, zbv1⟩ := cz2 BKbv; obtain ⟨zbt0, zbt1⟩ := cz2 BKbt)
    | ((with_reducible refine gate_dst (N := 10) rfl ?_); (try (refine gate_guard (by rfl) ?_; dsimp only)); refine box_event ?hg (N := 10) ?hd (cs := #[.bool false, .slice none 0 0]) (t := 25) ?hr ?_; (case hd => rfl); (case hg => rfl); (case hr => first | (go_simp; done) | (go_simp; rfl)); intro bd hg wa17 hbox hb; have K_ := Kept.of_below hb (fun _ => False); replace BKbu := mvB BKbu K_; replace BKbv := mvB BKbv K_; replace BKbt := mvB BKbt K_; replace Z := zA Z (K_.1); replace Z := zA Z (Nat.le_of_eq hg.symm); replace Z := zA Z (Nat.le_of_eq hg); replace Z := zA Z (blk_lt hbox); have BKbd := Aside0.mk hbox; have PB_ := Aside0.mk hb; have PG_ := Aside0.mk (Nat.le_of_eq hg.symm); clear hb hbox hg K_; clear zbu0 zbu1 zbv0 zbv1 zbt0 zbt1; obtain ⟨zbu0, zbu1⟩ := cz2 BKbu; obtain ⟨zbv0, zbv1⟩ := cz2 BKbv; obtain ⟨zbt0, zbt1⟩ := cz2 BKbt; obtain ⟨zbd0, zbd1⟩ := cz2 BKbd; obtain ⟨fbd0, fbd1⟩ := fz2 BKbd; have nbdbu : bd ≠ bu := (by have hZ := Z.out; omega); have nbubd := nbdbu.symm; have nbdbv : bd ≠ bv := (by have hZ := Z.out; omega); have nbvbd := nbdbv.symm; have nbdbt : bd ≠ bt := (by have hZ := Z.out; omega); have nbtbd := nbdbt.symm)
    | ((with_reducible refine gate_dst (N := 41) rfl ?_); (try (refine gate_guard (by rfl) ?_; dsimp only)); have NB_ := put2 (a' := .bool jd) (b' := .slice Ad ld.length cd) BKbd; have K_ := kp2 (w := wa17) (g := bd) (a := .bool jd) (b := .slice Ad ld.length cd); have hb := bw2 (a := .bool jd) (b := .slice Ad ld.length cd) PB_.out PG_.out; obtain ⟨wa18, hwS⟩ : ∃ W_, W_ = (World.setCell (World.setCell wa17 ⟨bd, 0, none⟩ (.bool jd)) ⟨bd, 1, none⟩ (.slice Ad ld.length cd)) := ⟨_, rfl⟩; rw [← hwS] at NB_ K_ hb ⊢; clear hwS; replace BKbu := sB BKbu K_ nbubd; replace BKbv := sB BKbv K_ nbvbd; replace BKbt := sB BKbt K_ nbtbd; replace Z := zA Z (K_.1); clear K_ BKbd; have BKbd := NB_; have K_ := Kept.of_below hb (fun _ => False); replace Lu := mvL Lu K_; replace Lv := mvL Lv K_; replace Lt := mvL Lt K_; replace Rd := mvR Rd K_; replace Z := zA Z (K_.1); replace HBW := bS HBW hb; clear K_ NB_ hb PB_ PG_; clear zbu0 zbu1 zbv0 zbv1 zbt0 zbt1 zbd0 zbd1 fbd0 fbd1 nbdbu nbubd nbdbv nbvbd nbdbt nbtbd; obtain ⟨zbu0, zbu1⟩ := cz2 BKbu; obtain ⟨zbv0, zbv1⟩ := cz2 BKbv; obtain ⟨zbt0, zbt1⟩ := cz2 BKbt; obtain ⟨zbd0, zbd1⟩ := cz2 BKbd; refine goesL_ (some 41) rfl rfl Try.func41 (by kernel_rfl) rfl #[.agg #[.bool xn, .slice (some ⟨gu, 0, none⟩) lx.length (lx.length + 8)], .agg #[.bool yn, .slice (some ⟨gv, 0, none⟩) ly.length (ly.length + 8)]] rfl (by (try simp only [List.map_toArray, List.map_cons, List.map_nil]); first | done | rfl | (simp only [List.length_drop, List.length_take]; rfl)) ?_; refine (whole_Cmp.calls k2 xn _ _ lx yn _ _ ly c _ (Lnt.read Lu.out Xx.out) (Nat.le_add_right _ _) (Lnt.read Lv.out Xy.out) (Nat.le_add_right _ _) h2.out).mono ?_; rintro e wa19 ⟨rfl, hb⟩; refine ⟨_, rfl, ?_⟩; have K_ := Kept.of_below hb (fun _ => False); replace BKbu := mvB BKbu K_; replace BKbv := mvB BKbv K_; replace BKbt := mvB BKbt K_; replace BKbd := mvB BKbd K_; replace Lu := mvL Lu K_; replace Lv := mvL Lv K_; replace Lt := mvL Lt K_; replace Rd := mvR Rd K_; replace Z := zA Z (K_.1); replace HBW := bS HBW hb; clear hb K_; clear zbu0 zbu1 zbv0 zbv1 zbt0 zbt1 zbd0 zbd1; obtain ⟨zbu0, zbu1⟩ := cz2 BKbu; obtain ⟨zbv0, zbv1⟩ := cz2 BKbv; obtain ⟨zbt0, zbt1⟩ := cz2 BKbt; obtain ⟨zbd0, zbd1⟩ := cz2 BKbd))
  have hc_ := hc.out
  clear hc
  have hw0 : IntKind.i64.wrap 0 = 0 := by decide
  have hw1 : IntKind.i64.wrap 1 = 1 := by decide
  have hw2 : IntKind.i64.wrap (-1) = -1 := by decide
  rcases hc_ with ⟨rfl, rfl, rfl⟩ | ⟨rfl, rfl, rfl⟩ | ⟨rfl, rfl, rfl⟩
  all_goals (
    have HB_ := Aside0.mk (Below.refl wa19.heap.size wa19).drew
    go_region_held3 (fun w' => w'.cell? ⟨bd, 0, none⟩ = some (.bool jd) ∧ w'.cell? ⟨bd, 1, none⟩ = some (.slice Ad ld.length cd) ∧ w'.cell? ⟨bu, 0, none⟩ = some (.bool xn) ∧ w'.cell? ⟨bu, 1, none⟩ = some (.slice (some ⟨gu, 0, none⟩) lx.length (lx.length + 8)) ∧ w'.cell? ⟨bv, 0, none⟩ = some (.bool yn) ∧ w'.cell? ⟨bv, 1, none⟩ = some (.slice (some ⟨gv, 0, none⟩) ly.length (ly.length + 8)))
      (exact ⟨(blk_cell (blk_below BKbd.out HB_.out) 0).trans rfl, (blk_cell (blk_below BKbd.out HB_.out) 1).trans rfl, (blk_cell (blk_below BKbu.out HB_.out) 0).trans rfl, (blk_cell (blk_below BKbu.out HB_.out) 1).trans rfl, (blk_cell (blk_below BKbv.out HB_.out) 0).trans rfl, (blk_cell (blk_below BKbv.out HB_.out) 1).trans rfl⟩)
      (first | (go_at_call 37; with_reducible refine (whole_Of.calls k3 0 jo lo _ h3.out).mono ?_; rintro e wr ⟨v_, rfl, hR, hb⟩; have n_ := Aside0.mk (below_step HB_.out hb); clear HB_; have HB_ := n_; clear n_; obtain ⟨Ao, co, ev_⟩ := Kd.R_slice hR; subst ev_; have Qo := Aside0.mk (And.intro (Kd.R_reads' hR).2.2 (Kd.R_reads' hR).2.1); clear hR; clear hb)
             | (go_at_call 41; with_reducible refine (whole_Cmp.calls k4 jd _ _ ld jo _ _ lo _ _ (Kd.C_below (Kd.R_reads' Rd.out).2.2 HB_.out) (Kd.R_reads' Rd.out).2.1 Qo.out.1 Qo.out.2 h4.out).mono ?_; rintro e wr ⟨rfl, hb⟩; have n_ := Aside0.mk (below_step HB_.out hb); clear HB_; have HB_ := n_; clear n_; (try (have n_ := Aside0.mk (And.intro (Kd.C_below Qo.out.1 hb) Qo.out.2); clear Qo; have Qo := n_; clear n_)); clear hb)
             | (go_at_call 41; with_reducible refine (whole_Cmp.calls k5 yn _ _ ly xn _ _ lx _ _ (Kd.C_below (Lnt.read Lv.out Xy.out) HB_.out) (Nat.le_add_right _ _) (Kd.C_below (Lnt.read Lu.out Xx.out) HB_.out) (Nat.le_add_right _ _) h5.out).mono ?_; rintro e wr ⟨rfl, hb⟩; have n_ := Aside0.mk (below_step HB_.out hb); clear HB_; have HB_ := n_; clear n_; (try (have n_ := Aside0.mk (And.intro (Kd.C_below Qo.out.1 hb) Qo.out.2); clear Qo; have Qo := n_; clear n_)); clear hb)
             | (go_at_call 46; with_reducible refine (law_same xn yn _ _ _ _ lx ly _ _ (Kd.C_below (Lnt.read Lu.out Xx.out) HB_.out) (Nat.le_add_right _ _) (Kd.C_below (Lnt.read Lv.out Xy.out) HB_.out) (Nat.le_add_right _ _) hm.out).mono ?_; rintro e wr ⟨rfl, hb⟩; have n_ := Aside0.mk (below_step HB_.out hb); clear HB_; have HB_ := n_; clear n_; (try (have n_ := Aside0.mk (And.intro (Kd.C_below Qo.out.1 hb) Qo.out.2); clear Qo; have Qo := n_; clear n_)); clear hb))
    have K_ := Kept.of_below HB_.out (fun _ => False)
    replace BKbu := mvB BKbu K_; replace BKbv := mvB BKbv K_; replace BKbt := mvB BKbt K_; replace BKbd := mvB BKbd K_; replace Lu := mvL Lu K_; replace Lv := mvL Lv K_; replace Lt := mvL Lt K_; replace Rd := mvR Rd K_; replace Z := zA Z (K_.1); replace HBW := bS HBW HB_.out; clear zbu0 zbu1 zbv0 zbv1 zbt0 zbt1 zbd0 zbd1; obtain ⟨zbu0, zbu1⟩ := cz2 BKbu; obtain ⟨zbv0, zbv1⟩ := cz2 BKbv; obtain ⟨zbt0, zbt1⟩ := cz2 BKbt; obtain ⟨zbd0, zbd1⟩ := cz2 BKbd
    go_wp2_with (first
      | ((with_reducible refine gate_dst (N := 72) rfl ?_); (try (refine gate_guard (by rfl) ?_; dsimp only)); refine goesL_ (some 72) rfl rfl Try.func41 (by kernel_rfl) rfl #[.agg #[.bool yn, .slice (some ⟨gv, 0, none⟩) ly.length (ly.length + 8)], .agg #[.bool zn, .slice (some ⟨gt, 0, none⟩) lz.length (lz.length + 8)]] rfl (by (try simp only [List.map_toArray, List.map_cons, List.map_nil]); first | done | rfl | (simp only [List.length_drop, List.length_take]; rfl)) ?_; refine (whole_Cmp.calls k6 yn _ _ ly zn _ _ lz cyz _ (Lnt.read Lv.out Xy.out) (Nat.le_add_right _ _) (Lnt.read Lt.out Xz.out) (Nat.le_add_right _ _) h6.out).mono ?_; rintro e wa20 ⟨rfl, hb⟩; refine ⟨_, rfl, ?_⟩; have K_ := Kept.of_below hb (fun _ => False); replace BKbu := mvB BKbu K_; replace BKbv := mvB BKbv K_; replace BKbt := mvB BKbt K_; replace BKbd := mvB BKbd K_; replace Lu := mvL Lu K_; replace Lv := mvL Lv K_; replace Lt := mvL Lt K_; replace Rd := mvR Rd K_; replace Z := zA Z (K_.1); replace HBW := bS HBW hb; clear hb K_; clear zbu0 zbu1 zbv0 zbv1 zbt0 zbt1 zbd0 zbd1; obtain ⟨zbu0, zbu1⟩ := cz2 BKbu; obtain ⟨zbv0, zbv1⟩ := cz2 BKbv; obtain ⟨zbt0, zbt1⟩ := cz2 BKbt; obtain ⟨zbd0, zbd1⟩ := cz2 BKbd)
      | ((with_reducible refine gate_dst (N := 78) rfl ?_); (try (refine gate_guard (by rfl) ?_; dsimp only)); refine goesL_ (some 78) rfl rfl Try.func41 (by kernel_rfl) rfl #[.agg #[.bool xn, .slice (some ⟨gu, 0, none⟩) lx.length (lx.length + 8)], .agg #[.bool zn, .slice (some ⟨gt, 0, none⟩) lz.length (lz.length + 8)]] rfl (by (try simp only [List.map_toArray, List.map_cons, List.map_nil]); first | done | rfl | (simp only [List.length_drop, List.length_take]; rfl)) ?_; refine (whole_Cmp.calls k7 xn _ _ lx zn _ _ lz cxz _ (Lnt.read Lu.out Xx.out) (Nat.le_add_right _ _) (Lnt.read Lt.out Xz.out) (Nat.le_add_right _ _) h7.out).mono ?_; rintro e wa21 ⟨rfl, hb⟩; refine ⟨_, rfl, ?_⟩; have K_ := Kept.of_below hb (fun _ => False); replace BKbu := mvB BKbu K_; replace BKbv := mvB BKbv K_; replace BKbt := mvB BKbt K_; replace BKbd := mvB BKbd K_; replace Lu := mvL Lu K_; replace Lv := mvL Lv K_; replace Lt := mvL Lt K_; replace Rd := mvR Rd K_; replace Z := zA Z (K_.1); replace HBW := bS HBW hb; clear hb K_; clear zbu0 zbu1 zbv0 zbv1 zbt0 zbt1 zbd0 zbd1; obtain ⟨zbu0, zbu1⟩ := cz2 BKbu; obtain ⟨zbv0, zbv1⟩ := cz2 BKbv; obtain ⟨zbt0, zbt1⟩ := cz2 BKbt; obtain ⟨zbd0, zbd1⟩ := cz2 BKbd)
      | ((with_reducible refine gate_dst (N := 82) rfl ?_); (try (refine gate_guard (by rfl) ?_; dsimp only)); refine goesL_ (some 82) rfl rfl Try.func25 (by kernel_rfl) rfl #[] rfl (by (try simp only [List.map_toArray, List.map_cons, List.map_nil]); first | done | rfl | (simp only [List.length_drop, List.length_take]; rfl)) ?_; refine (law_known _).mono ?_; rintro e wa22 ⟨rfl, hb⟩; refine ⟨_, rfl, ?_⟩; have K_ := Kept.of_below hb (fun _ => False); replace BKbu := mvB BKbu K_; replace BKbv := mvB BKbv K_; replace BKbt := mvB BKbt K_; replace BKbd := mvB BKbd K_; replace Lu := mvL Lu K_; replace Lv := mvL Lv K_; replace Lt := mvL Lt K_; replace Rd := mvR Rd K_; replace Z := zA Z (K_.1); replace HBW := bS HBW hb; clear hb K_; clear zbu0 zbu1 zbv0 zbv1 zbt0 zbt1 zbd0 zbd1; obtain ⟨zbu0, zbu1⟩ := cz2 BKbu; obtain ⟨zbv0, zbv1⟩ := cz2 BKbv; obtain ⟨zbt0, zbt1⟩ := cz2 BKbt; obtain ⟨zbd0, zbd1⟩ := cz2 BKbd)
      | (go_at_call 41; refine (whole_Cmp.calls k7 xn _ _ lx zn _ _ lz cxz _ (Lnt.read Lu.out Xx.out) (Nat.le_add_right _ _) (Lnt.read Lt.out Xz.out) (Nat.le_add_right _ _) h7.out).mono ?_; rintro e wa21 ⟨rfl, hb⟩; have K_ := Kept.of_below hb (fun _ => False); replace BKbu := mvB BKbu K_; replace BKbv := mvB BKbv K_; replace BKbt := mvB BKbt K_; replace BKbd := mvB BKbd K_; replace Lu := mvL Lu K_; replace Lv := mvL Lv K_; replace Lt := mvL Lt K_; replace Rd := mvR Rd K_; replace Z := zA Z (K_.1); replace HBW := bS HBW hb; clear hb K_; clear zbu0 zbu1 zbv0 zbv1 zbt0 zbt1 zbd0 zbd1; obtain ⟨zbu0, zbu1⟩ := cz2 BKbu; obtain ⟨zbv0, zbv1⟩ := cz2 BKbv; obtain ⟨zbt0, zbt1⟩ := cz2 BKbt; obtain ⟨zbd0, zbd1⟩ := cz2 BKbd)
      | (go_at_call 25; refine (law_known _).mono ?_; rintro e wa22 ⟨rfl, hb⟩; have K_ := Kept.of_below hb (fun _ => False); replace BKbu := mvB BKbu K_; replace BKbv := mvB BKbv K_; replace BKbt := mvB BKbt K_; replace BKbd := mvB BKbd K_; replace Lu := mvL Lu K_; replace Lv := mvL Lv K_; replace Lt := mvL Lt K_; replace Rd := mvR Rd K_; replace Z := zA Z (K_.1); replace HBW := bS HBW hb; clear hb K_; clear zbu0 zbu1 zbv0 zbv1 zbt0 zbt1 zbd0 zbd1; obtain ⟨zbu0, zbu1⟩ := cz2 BKbu; obtain ⟨zbv0, zbv1⟩ := cz2 BKbv; obtain ⟨zbt0, zbt1⟩ := cz2 BKbt; obtain ⟨zbd0, zbd1⟩ := cz2 BKbd))
    all_goals first
      | (go_ret; exact ⟨rfl, HBW.out⟩)
      | (go_ret
         have ht_ := ht.out
         have e_ : (decide (0 < cyz) || decide (cxz ≤ 0)) = true := by
           simp only [Bool.or_eq_true, decide_eq_true_eq]
           omega
         exact ⟨congrArg (fun b => Ending.returned (Value.bool b)) e_, HBW.out⟩)
      | (have ht_ := ht.out; omega))

end Go.Proofs.Ytfjbhccapgnkiaa.P
