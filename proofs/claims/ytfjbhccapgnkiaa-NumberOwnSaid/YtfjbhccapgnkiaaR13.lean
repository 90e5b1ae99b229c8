import Derived.Test.YtfjbhccapgnkiaaN13
import Derived.Test.YtfjbhccapgnkiaaU13
namespace Go.Proofs.Ytfjbhccapgnkiaa.P
open Go.RowKit Go.Proofs.YtfjbhccapgnkiaaW.PrintWords Go.Proofs.YtfjbhccapgnkiaaW.PrintLast Go.Proofs.YtfjbhccapgnkiaaW.PrintMore
attribute [local go_sem] max2_int min2_int max_two min_two max_three min_three max_four min_four
set_option linter.unusedVariables false
set_option linter.unusedSimpArgs false

open Lap
/-! ### NumberOwn: what the program's functions give of the numbers lent -/
theorem order_nan_left {a b : Nat} (h : nanB a = true) : FloatKind.f64.format.order a b = none := by
  show (Ieee.double.read a).order (Ieee.double.read b) = none
  unfold nanB at h
  cases hd : Ieee.double.read a with
  | nan s f => rfl
  | number s m e => rw [hd] at h; simp [Ieee.Datum.isNaN] at h
  | infinity s => rw [hd] at h; simp [Ieee.Datum.isNaN] at h
theorem ceqB_nan_left {a b c d : Nat} (h : (nanB a || nanB b) = true) : ceqB a b c d = false := by
  unfold ceqB
  rcases Bool.or_eq_true_iff.1 h with h | h
  · rw [order_nan_left h]; rfl
  · rw [order_nan_left (a := b) h]; simp
theorem ceqB_self {a b : Nat} (ha : nanB a = false) (hb : nanB b = false) : ceqB a b a b = true := by
  have h1 : FloatKind.f64.format.order a a = some .eq := (order_self _).trans (if_neg (by rw [show (FloatKind.f64.format.read a).isNaN = false from ha]; decide))
  have h2 : FloatKind.f64.format.order b b = some .eq := (order_self _).trans (if_neg (by rw [show (FloatKind.f64.format.read b).isNaN = false from hb]; decide))
  unfold ceqB
  rw [h1, h2]; rfl
theorem lright (p s : Bool) (l : List Int) (x y : Nat) (hl : l.length ≤ 140737488351232) : LRight p s l x y (rightN p s l x y (okN s l)) := by
  intro W g hL
  have hr := Lnt.read hL hl
  have hc : l.length ≤ l.length + 8 := Nat.le_add_right _ _
  have ho := right_eq s l
  cases p
  · cases hk : okN s l
    · rw [hk] at ho
      exact number_Right.wn _ _ _ x y s W hr hc ho
    · rw [hk] at ho
      by_cases h1 : bitsN x = 0
      · by_cases h2 : bitsN y = 0
        · have h := number_Right.wy _ _ _ x y s h1 h2 W hr hc ho
          rw [show rightN false s l x y true = true from by unfold rightN; simp [h1, h2]]
          exact h
        · have h := number_Right.wb _ _ _ x y s h1 h2 W hr hc ho
          rw [show rightN false s l x y true = false from by unfold rightN; simp [h1, h2]]
          exact h
      · have h := number_Right.wa _ _ _ x y s h1 W hr hc ho
        rw [show rightN false s l x y true = false from by unfold rightN; simp [h1]]
        exact h
  · cases s
    · by_cases h0 : (l.length : Int) = 0
      · have h := number_Right.pf0 _ _ _ x y h0 W hr hc
        rw [show rightN true false l x y (okN false l) = true from by have h9 : l.length = 0 := (by omega); unfold rightN; rw [if_pos rfl, h9]; rfl]
        exact h
      · have h := number_Right.pf1 _ _ _ x y h0 W hr hc
        rw [show rightN true false l x y (okN false l) = false from by have h9 : l.length ≠ 0 := (by omega); unfold rightN; rw [if_pos rfl, decide_eq_false h9]; rfl]
        exact h
    · have h := number_Right.pt _ _ _ x y W hr hc
      exact h
theorem l58 {p s : Bool} {l : List Int} {x y : Nat} (h : LRight p s l x y true) {W : World} {g : Nat} (hL : Lnt W g l) : Gives58 W (.agg #[.bool p, .bool s, .slice (some ⟨g, 0, none⟩) l.length (l.length + 8), .complex .f64 x y]) true := fun W' hb => h W' g (Lnt.below hL hb)
theorem l118 (p s : Bool) (l : List Int) (x y : Nat) (hl : l.length ≤ 140737488351232) (hb : IsB l) : ∃ r i k, (∀ (W : World) (g : Nat), Lnt W g l → Gives118 W (.agg #[.bool p, .bool s, .slice (some ⟨g, 0, none⟩) l.length (l.length + 8), .complex .f64 x y]) r i k) ∧ (p = true → r = x ∧ i = y ∧ k = true) := by
  cases p
  · obtain ⟨k, v, ok, hk⟩ := own_small s hb
    exact ⟨_, _, ok, fun W g hL W' hb => number_wide.plain s _ _ l x y k v ok W' (Lnt.read (Lnt.below hL hb) hl) (Nat.le_add_right _ _) hk, fun h => by cases h⟩
  · exact ⟨x, y, true, fun W g hL W' hb => number_wide.pair s _ _ l x y W' (Lnt.read (Lnt.below hL hb) hl) (Nat.le_add_right _ _), fun _ => ⟨rfl, rfl, rfl⟩⟩
theorem leq_pairs (p s : Bool) (l : List Int) (x y : Nat) (p2 s2 : Bool) (l2 : List Int) (x2 y2 : Nat) (hpp : p = true ∨ (p = false ∧ p2 = true)) (h1 : LRight p s l x y true) (h2 : LRight p2 s2 l2 x2 y2 true) (hl : l.length ≤ 140737488351232) (hl2 : l2.length ≤ 140737488351232) (hb : IsB l) (hb2 : IsB l2) :
    ∃ r, LEq p s l x y p2 s2 l2 x2 y2 r ∧ (p = true → p2 = true → r = ceqB x y x2 y2) ∧ (p = true → (nanB x || nanB y) = true → r = false) := by
  obtain ⟨a, b, k, g1, e1⟩ := l118 p s l x y hl hb
  obtain ⟨c, d, m, g2, e2⟩ := l118 p2 s2 l2 x2 y2 hl2 hb2
  refine ⟨k && m && ceqB a b c d, fun W g g' hL hL' => ?_, ?_, ?_⟩
  · refine (number_Do.pairs 6 p s (some ⟨g, 0, none⟩) l.length (l.length + 8) x y p2 s2 (some ⟨g', 0, none⟩) l2.length (l2.length + 8) x2 y2 a b k c d m (by decide) (by decide) (by rcases hpp with h | h; exact .inl h; exact .inr (.inl h)) W (l58 h1 hL) (l58 h2 hL') (g1 W g hL) (g2 W g' hL')).mono ?_
    rintro e w' ⟨q, re, im, r, er, rfl, hr, hb⟩
    simp [PairsR] at hr
    obtain ⟨rfl, rfl, rfl, rfl, rfl⟩ := hr
    refine ⟨?_, hb⟩
    simp
  · intro hp hp2
    obtain ⟨rfl, rfl, rfl⟩ := e1 hp
    obtain ⟨rfl, rfl, rfl⟩ := e2 hp2
    rfl
  · intro hp hn
    obtain ⟨rfl, rfl, rfl⟩ := e1 hp
    rw [ceqB_nan_left hn]; simp
theorem leq_wholes (s : Bool) (l : List Int) (x y : Nat) (s2 : Bool) (l2 : List Int) (x2 y2 : Nat) (k : Nat) (c : Int) (h1 : LRight false s l x y true) (h2 : LRight false s2 l2 x2 y2 true) (hl : l.length ≤ 140737488351232) (hl2 : l2.length ≤ 140737488351232) (hk : whole_Cmp.f k s l s2 l2 = some c) :
    LEq false s l x y false s2 l2 x2 y2 (decide (c = 0)) := by
  intro W g g' hL hL'
  by_cases h0 : c = 0
  · have h := number_Do.eqT s (some ⟨g, 0, none⟩) (l.length + 8) l x y s2 (some ⟨g', 0, none⟩) (l2.length + 8) l2 x2 y2 k c h0 W (l58 h1 hL) (l58 h2 hL') (Lnt.read hL hl) (Nat.le_add_right _ _) (Lnt.read hL' hl2) (Nat.le_add_right _ _) hk
    rw [decide_eq_true h0]; exact h
  · have h := number_Do.eqF s (some ⟨g, 0, none⟩) (l.length + 8) l x y s2 (some ⟨g', 0, none⟩) (l2.length + 8) l2 x2 y2 k c h0 W (l58 h1 hL) (l58 h2 hL') (Lnt.read hL hl) (Nat.le_add_right _ _) (Lnt.read hL' hl2) (Nat.le_add_right _ _) hk
    rw [decide_eq_false h0]; exact h
theorem leq_any (p s : Bool) (l : List Int) (x y : Nat) (p2 s2 : Bool) (l2 : List Int) (x2 y2 : Nat) (h1 : LRight p s l x y true) (h2 : LRight p2 s2 l2 x2 y2 true) (hl : l.length ≤ 140737488351232) (hl2 : l2.length ≤ 140737488351232) (hb : IsB l) (hb2 : IsB l2) :
    ∃ r, LEq p s l x y p2 s2 l2 x2 y2 r ∧ (p = true → (nanB x || nanB y) = true → r = false) := by
  cases p
  · cases p2
    · obtain ⟨k, c, hk⟩ := own_cmp s s2 hb hb2
      exact ⟨_, leq_wholes s l x y s2 l2 x2 y2 k c h1 h2 hl hl2 hk, fun h => by cases h⟩
    · obtain ⟨r, h, -, h3⟩ := leq_pairs false s l x y true s2 l2 x2 y2 (.inr ⟨rfl, rfl⟩) h1 h2 hl hl2 hb hb2
      exact ⟨r, h, h3⟩
  · obtain ⟨r, h, -, h3⟩ := leq_pairs true s l x y p2 s2 l2 x2 y2 (.inl rfl) h1 h2 hl hl2 hb hb2
    exact ⟨r, h, h3⟩
theorem lminus (s : Bool) (l : List Int) (x y : Nat) (h1 : LRight false s l x y true) (hl : l.length ≤ 140737488351232) (hb : IsB l) (ho : okN s l = true) : LMinus s l x y := by
  intro W g hL
  obtain ⟨k, hk⟩ := own_less hb ho
  exact number_Do.minus s (some ⟨g, 0, none⟩) (l.length + 8) l x y s (some ⟨g, 0, none⟩) (l.length + 8) l x y k false [] 0 W (l58 h1 hL) (l58 h1 hL) (Lnt.read hL hl) (Nat.le_add_right _ _) (Lnt.read hL hl) (Nat.le_add_right _ _) hk
theorem bitsN_zero {x : Nat} (h : bitsN x = 0) : nanB x = false := by
  unfold bitsN at h
  cases hn : nanB x
  · rfl
  · rw [hn, if_pos rfl] at h; exact absurd h (by decide)
theorem own_law (xp xs : Bool) (Ax : Option Addr) (cx : Nat) (lx : List Int) (xa xb : Nat) (yp ys : Bool) (Ay : Option Addr) (cy : Nat) (ly : List Int) (ya yb : Nat) (hbx : IsB lx) (hby : IsB ly) (w : World)
    (hrx : Kd.C (Kd.int .u8) w Ax lx.length lx) (hcx : lx.length ≤ cx) (hAx : Ax = none → cx = 0) (hlx : lx.length ≤ 140737488351232)
    (hry : Kd.C (Kd.int .u8) w Ay ly.length ly) (hcy : ly.length ≤ cy) (hAy : Ay = none → cy = 0) (hly : ly.length ≤ 140737488351232) :
    Calls Try.prog 13 #[.agg #[.bool xp, .bool xs, .slice Ax lx.length cx, .float .f64 xa, .float .f64 xb], .agg #[.bool yp, .bool ys, .slice Ay ly.length cy, .float .f64 ya, .float .f64 yb]] w fun e w' => e = .returned (.bool true) ∧ Below w.heap.size w w' := by
  have hX := lright xp xs lx xa xb hlx
  have hY := lright yp ys ly ya yb hly
  cases hx : rightN xp xs lx xa xb (okN xs lx)
  · rw [hx] at hX
    exact own_notx xp xs Ax cx lx xa xb yp ys Ay cy ly ya yb w hrx hcx hAx hlx hry hcy hAy hly hX
  · rw [hx] at hX
    cases hy : rightN yp ys ly ya yb (okN ys ly)
    · rw [hy] at hY
      exact own_noty xp xs Ax cx lx xa xb yp ys Ay cy ly ya yb w hrx hcx hAx hlx hry hcy hAy hly hX hY
    · rw [hy] at hY
      obtain ⟨ob, d2, n2⟩ := leq_any xp xs lx xa xb yp ys ly ya yb hX hY hlx hly hbx hby
      cases xp
      · have hR : okN xs lx = true ∧ bitsN xa = 0 ∧ bitsN xb = 0 := by
          unfold rightN at hx
          simp at hx
          exact ⟨hx.1.1, hx.1.2, hx.2⟩
        obtain ⟨k, hk⟩ := own_same hbx hR.1
        have d1 := leq_wholes xs lx xa xb xs lx xa xb k 0 hX hX hlx hlx hk
        exact own_whole xs Ax cx lx xa xb yp ys Ay cy ly ya yb ob (bitsN_zero hR.2.1) (bitsN_zero hR.2.2) w hrx hcx hAx hlx hry hcy hAy hly hX hY d1 d2 (lminus xs lx xa xb hX hlx hbx hR.1)
      · obtain ⟨r, d1, e1, f1⟩ := leq_pairs true xs lx xa xb true xs lx xa xb (.inl rfl) hX hX hlx hlx hbx hbx
        cases ha : nanB xa
        · cases hb : nanB xb
          · rw [e1 rfl rfl, ceqB_self ha hb] at d1
            exact own_pair xs Ax cx lx xa xb yp ys Ay cy ly ya yb ob ha hb w hrx hcx hAx hlx hry hcy hAy hly hX hY d1 d2
          · have hn : (nanB xa || nanB xb) = true := by rw [ha, hb]; rfl
            rw [f1 rfl hn] at d1
            rw [n2 rfl hn] at d2
            exact own_nanb xs Ax cx lx xa xb yp ys Ay cy ly ya yb ha hb w hrx hcx hAx hlx hry hcy hAy hly hX hY d1 d2
        · have hn : (nanB xa || nanB xb) = true := by rw [ha]; rfl
          rw [f1 rfl hn] at d1
          rw [n2 rfl hn] at d2
          exact own_nana xs Ax cx lx xa xb yp ys Ay cy ly ya yb ha w hrx hcx hAx hlx hry hcy hAy hly hX hY d1 d2

end Go.Proofs.Ytfjbhccapgnkiaa.P
