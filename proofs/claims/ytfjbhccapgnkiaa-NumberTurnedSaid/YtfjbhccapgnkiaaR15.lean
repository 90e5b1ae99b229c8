import Derived.Test.YtfjbhccapgnkiaaN15
import Derived.Test.YtfjbhccapgnkiaaU15
namespace Go.Proofs.Ytfjbhccapgnkiaa.P
open Go.RowKit Go.Proofs.YtfjbhccapgnkiaaW.PrintWords Go.Proofs.YtfjbhccapgnkiaaW.PrintLast Go.Proofs.YtfjbhccapgnkiaaW.PrintMore
attribute [local go_sem] max2_int min2_int max_two min_two max_three min_three max_four min_four
set_option linter.unusedVariables false
set_option linter.unusedSimpArgs false

open Lap
/-! ### NumberTurned: the law -/
theorem lright (p s : Bool) (l : List Int) (x y : Nat) (hl : l.length ≤ 140737488351232) : LRight p s l x y (rightN p s l x y (okN s l)) := by
  intro W g hL
  have hr := Lnt.read hL hl
  have hc : l.length ≤ l.length + 8 := Nat.le_add_right _ _
  have ho := right_eq s l
  cases p
  · cases hk : okN s l
    · rw [hk] at ho
      exact number_Right.wn _ _ _ x y s W hr hc ho
    · rw [hk] at ho
      by_cases h1 : bitsN x = 0
      · by_cases h2 : bitsN y = 0
        · have h := number_Right.wy _ _ _ x y s h1 h2 W hr hc ho
          rw [show rightN false s l x y true = true from by unfold rightN; simp [h1, h2]]
          exact h
        · have h := number_Right.wb _ _ _ x y s h1 h2 W hr hc ho
          rw [show rightN false s l x y true = false from by unfold rightN; simp [h1, h2]]
          exact h
      · have h := number_Right.wa _ _ _ x y s h1 W hr hc ho
        rw [show rightN false s l x y true = false from by unfold rightN; simp [h1]]
        exact h
  · cases s
    · by_cases h0 : (l.length : Int) = 0
      · have h := number_Right.pf0 _ _ _ x y h0 W hr hc
        rw [show rightN true false l x y (okN false l) = true from by have h9 : l.length = 0 := (by omega); unfold rightN; rw [if_pos rfl, h9]; rfl]
        exact h
      · have h := number_Right.pf1 _ _ _ x y h0 W hr hc
        rw [show rightN true false l x y (okN false l) = false from by have h9 : l.length ≠ 0 := (by omega); unfold rightN; rw [if_pos rfl, decide_eq_false h9]; rfl]
        exact h
    · have h := number_Right.pt _ _ _ x y W hr hc
      exact h
theorem l118 (p s : Bool) (l : List Int) (x y : Nat) (hl : l.length ≤ 140737488351232) (hb : IsB l) : ∃ r i k, ∀ (W : World) (g : Nat), Lnt W g l → Gives118 W (.agg #[.bool p, .bool s, .slice (some ⟨g, 0, none⟩) l.length (l.length + 8), .complex .f64 x y]) r i k := by
  cases p
  · obtain ⟨k, v, ok, hk⟩ := turn_small s hb
    exact ⟨_, _, ok, fun W g hL W' hb => number_wide.plain s _ _ l x y k v ok W' (Lnt.read (Lnt.below hL hb) hl) (Nat.le_add_right _ _) hk⟩
  · exact ⟨x, y, true, fun W g hL W' hb => number_wide.pair s _ _ l x y W' (Lnt.read (Lnt.below hL hb) hl) (Nat.le_add_right _ _)⟩
theorem ga_add {k : Nat} {s : Bool} {l : List Int} {s2 : Bool} {l2 : List Int} {r : Bool × List Int × Int} (hl : l.length ≤ 140737488351232) (hl2 : l2.length ≤ 140737488351232) (hk : whole_Add.f k s l s2 l2 = some r) (W : World) (g g2 : Nat) (hL : Lnt W g l) (hL2 : Lnt W g2 l2) : GivesA 29 W (.agg #[.bool s, .slice (some ⟨g, 0, none⟩) l.length (l.length + 8)]) (.agg #[.bool s2, .slice (some ⟨g2, 0, none⟩) l2.length (l2.length + 8)]) r.1 r.2.1 r.2.2 :=
  fun W' hb => whole_Add.calls k s _ _ l s2 _ _ l2 r.1 r.2.1 r.2.2 W' (Lnt.read (Lnt.below hL hb) hl) (Nat.le_add_right _ _) (Lnt.read (Lnt.below hL2 hb) hl2) (Nat.le_add_right _ _) hk
theorem ga_mul {k : Nat} {s : Bool} {l : List Int} {s2 : Bool} {l2 : List Int} {r : Bool × List Int × Int} (hl : l.length ≤ 140737488351232) (hl2 : l2.length ≤ 140737488351232) (hk : whole_Mul.f k s l s2 l2 = some r) (W : World) (g g2 : Nat) (hL : Lnt W g l) (hL2 : Lnt W g2 l2) : GivesA 26 W (.agg #[.bool s, .slice (some ⟨g, 0, none⟩) l.length (l.length + 8)]) (.agg #[.bool s2, .slice (some ⟨g2, 0, none⟩) l2.length (l2.length + 8)]) r.1 r.2.1 r.2.2 :=
  fun W' hb => whole_Mul.calls k s _ _ l s2 _ _ l2 r.1 r.2.1 r.2.2 W' (Lnt.read (Lnt.below hL hb) hl) (Nat.le_add_right _ _) (Lnt.read (Lnt.below hL2 hb) hl2) (Nat.le_add_right _ _) hk
theorem cmp_cases (c : Int) : (6 = (6 : Int) ∧ c = 0 ∧ decide (c = 0) = true) ∨ ((6 : Int) = 6 ∧ c < 0 ∧ decide (c = 0) = false) ∨ ((6 : Int) = 6 ∧ 0 < c ∧ decide (c = 0) = false) ∨ ((6 : Int) = 7 ∧ c = 0 ∧ decide (c = 0) = false) ∨ ((6 : Int) = 7 ∧ c < 0 ∧ decide (c = 0) = true) ∨ ((6 : Int) = 7 ∧ 0 < c ∧ decide (c = 0) = false) := by
  by_cases h : c = 0
  · exact .inl ⟨rfl, h, decide_eq_true h⟩
  · by_cases h2 : c < 0
    · exact .inr (.inl ⟨rfl, h2, decide_eq_false h⟩)
    · exact .inr (.inr (.inl ⟨rfl, by omega, decide_eq_false h⟩))
theorem turned_law (xp xs : Bool) (Ax : Option Addr) (cx : Nat) (lx : List Int) (xa xb : Nat) (yp ys : Bool) (Ay : Option Addr) (cy : Nat) (ly : List Int) (ya yb : Nat) (hbx : IsB lx) (hby : IsB ly) (w : World)
    (hrx : Kd.C (Kd.int .u8) w Ax lx.length lx) (hcx : lx.length ≤ cx) (hAx : Ax = none → cx = 0) (hlx : lx.length ≤ 140737488351232)
    (hry : Kd.C (Kd.int .u8) w Ay ly.length ly) (hcy : ly.length ≤ cy) (hAy : Ay = none → cy = 0) (hly : ly.length ≤ 140737488351232) :
    Calls Try.prog 12 #[.agg #[.bool xp, .bool xs, .slice Ax lx.length cx, .float .f64 xa, .float .f64 xb], .agg #[.bool yp, .bool ys, .slice Ay ly.length cy, .float .f64 ya, .float .f64 yb]] w fun e w' => e = .returned (.bool true) ∧ Below w.heap.size w w' := by
  have hX := lright xp xs lx xa xb hlx
  have hY := lright yp ys ly ya yb hly
  generalize rightN xp xs lx xa xb (okN xs lx) = rx at hX
  generalize rightN yp ys ly ya yb (okN ys ly) = ry at hY
  have go := turned_walk xp xs Ax cx lx xa xb yp ys Ay cy ly ya yb
  by_cases hb : (rx && ry) = false
  · have hb' : (ry && rx) = false := by rw [Bool.and_comm]; exact hb
    refine go RZ RZ RZ RZ RZ RZ w hrx hcx hAx hlx hry hcy hAy hly (ldo_badr 0 (by decide) (by decide) hb hX hY) (ldo_badr 0 (by decide) (by decide) hb' hY hX) (ldo_badr 2 (by decide) (by decide) hb hX hY) (ldo_badr 2 (by decide) (by decide) hb' hY hX) (ldo_badr 6 (by decide) (by decide) hb hX hY) (ldo_badr 6 (by decide) (by decide) hb' hY hX) ?_ ?_ ?_
    · rintro _ _ _ _ _ _ _ _ _ _ _ _ _ _ ⟨rfl, rfl, rfl, rfl, rfl, rfl, rfl⟩ ⟨rfl, rfl, rfl, rfl, rfl, rfl, rfl⟩
      exact ⟨rfl, rfl, rfl, bsame_of rfl, bsame_of rfl, rfl⟩
    · rintro _ _ _ _ _ _ _ _ _ _ _ _ _ _ ⟨rfl, rfl, rfl, rfl, rfl, rfl, rfl⟩ ⟨rfl, rfl, rfl, rfl, rfl, rfl, rfl⟩
      exact ⟨rfl, rfl, rfl, bsame_of rfl, bsame_of rfl, rfl⟩
    · rintro _ _ _ _ _ _ _ _ _ _ _ _ _ _ ⟨rfl, rfl, rfl, rfl, rfl, rfl, rfl⟩ ⟨rfl, rfl, rfl, rfl, rfl, rfl, rfl⟩
      rfl
  · obtain ⟨rfl, rfl⟩ : rx = true ∧ ry = true := by simpa using hb
    clear hb
    by_cases hpp : xp = false ∧ yp = false
    · obtain ⟨rfl, rfl⟩ := hpp
      obtain ⟨k1, e1⟩ := (add_ev xs ys lx ly hbx hby).rounds
      obtain ⟨k2, e2⟩ := (add_ev ys xs ly lx hby hbx).rounds
      obtain ⟨k3, e3⟩ := (mul_ev xs ys lx ly hbx hby).rounds
      obtain ⟨k4, e4⟩ := (mul_ev ys xs ly lx hby hbx).rounds
      obtain ⟨k5, e5⟩ := (cmp2_ev xs ys lx ly hbx hby).rounds
      obtain ⟨k6, e6⟩ := (cmp2_ev ys xs ly lx hby hbx).rounds
      rw [addS_comm ys ly xs lx] at e2
      rw [mulS_comm ys ly xs lx] at e4
      have c5 := cmp_cases (cmpS xs lx ys ly)
      have c6 := cmp_cases (cmpS ys ly xs lx)
      rw [cmpS_turn xs lx ys ly] at c5
      have d5 := ldo_cmp (s := xs) (l := lx) (x := xa) (y := xb) (s2 := ys) (l2 := ly) (x2 := ya) (y2 := yb) 6 hlx hly hX hY c5 e5
      have d6 := ldo_cmp (s := ys) (l := ly) (x := ya) (y := yb) (s2 := xs) (l2 := lx) (x2 := xa) (y2 := xb) 6 hly hlx hY hX c6 e6
      refine go _ _ _ _ _ _ w hrx hcx hAx hlx hry hcy hAy hly (ldo_arith 0 29 (.inl ⟨rfl, rfl⟩) hX hY (ga_add hlx hly e1)) (ldo_arith 0 29 (.inl ⟨rfl, rfl⟩) hY hX (ga_add hly hlx e2)) (ldo_arith 2 26 (.inr (.inr (.inl ⟨rfl, rfl⟩))) hX hY (ga_mul hlx hly e3)) (ldo_arith 2 26 (.inr (.inr (.inl ⟨rfl, rfl⟩))) hY hX (ga_mul hly hlx e4)) d5 d6 ?_ ?_ ?_
      · rintro _ _ _ _ _ _ _ _ _ _ _ _ _ _ ⟨rfl, rfl, rfl, rfl, rfl, rfl, rfl⟩ ⟨rfl, rfl, rfl, rfl, rfl, rfl, rfl⟩
        exact ⟨rfl, rfl, rfl, bsame_of rfl, bsame_of rfl, rfl⟩
      · rintro _ _ _ _ _ _ _ _ _ _ _ _ _ _ ⟨rfl, rfl, rfl, rfl, rfl, rfl, rfl⟩ ⟨rfl, rfl, rfl, rfl, rfl, rfl, rfl⟩
        exact ⟨rfl, rfl, rfl, bsame_of rfl, bsame_of rfl, rfl⟩
      · rintro _ _ _ _ _ _ _ _ _ _ _ _ _ _ ⟨rfl, rfl, rfl, rfl, rfl, rfl, rfl⟩ ⟨rfl, rfl, rfl, rfl, rfl, rfl, rfl⟩
        rfl
    · obtain ⟨a, b, k, g1⟩ := l118 xp xs lx xa xb hlx hbx
      obtain ⟨c, d, m, g2⟩ := l118 yp ys ly ya yb hly hby
      have p1 : ∀ op : Int, xp = true ∨ (xp = false ∧ yp = true) ∨ (xp = false ∧ yp = false ∧ op = 3) := fun op => by
        cases xp
        · cases yp
          · exact absurd ⟨rfl, rfl⟩ hpp
          · exact .inr (.inl ⟨rfl, rfl⟩)
        · exact .inl rfl
      have p2 : ∀ op : Int, yp = true ∨ (yp = false ∧ xp = true) ∨ (yp = false ∧ xp = false ∧ op = 3) := fun op => by
        cases yp
        · cases xp
          · exact absurd ⟨rfl, rfl⟩ hpp
          · exact .inr (.inl ⟨rfl, rfl⟩)
        · exact .inl rfl
      refine go _ _ _ _ _ _ w hrx hcx hAx hlx hry hcy hAy hly (ldo_pairs 0 (by decide) (by decide) (p1 0) hX hY g1 g2) (ldo_pairs 0 (by decide) (by decide) (p2 0) hY hX g2 g1) (ldo_pairs 2 (by decide) (by decide) (p1 2) hX hY g1 g2) (ldo_pairs 2 (by decide) (by decide) (p2 2) hY hX g2 g1) (ldo_pairs 6 (by decide) (by decide) (p1 6) hX hY g1 g2) (ldo_pairs 6 (by decide) (by decide) (p2 6) hY hX g2 g1) ?_ ?_ ?_
      · rintro _ _ _ _ _ _ _ _ _ _ _ _ _ _ ⟨h1, rfl, rfl⟩ ⟨h2, rfl, rfl⟩
        obtain ⟨q1, q2, q3, q4⟩ := pairs_turn (.inl rfl) h1 h2
        exact ⟨q1, rfl, rfl, q2, q3, q4⟩
      · rintro _ _ _ _ _ _ _ _ _ _ _ _ _ _ ⟨h1, rfl, rfl⟩ ⟨h2, rfl, rfl⟩
        obtain ⟨q1, q2, q3, q4⟩ := pairs_turn (.inr rfl) h1 h2
        exact ⟨q1, rfl, rfl, q2, q3, q4⟩
      · rintro _ _ _ _ _ _ _ _ _ _ _ _ _ _ ⟨h1, rfl, rfl⟩ ⟨h2, rfl, rfl⟩
        exact pairs_turn6 h1 h2

end Go.Proofs.Ytfjbhccapgnkiaa.P
