import Derived.Test.YtfjbhccapgnkiaaN32
import Derived.Test.YtfjbhccapgnkiaaN31
import Derived.Test.YtfjbhccapgnkiaaFS
import Derived.Test.YtfjbhccapgnkiaaU6
namespace Go.Proofs.Ytfjbhccapgnkiaa.P
open Go.RowKit Go.Proofs.YtfjbhccapgnkiaaW.PrintWords Go.Proofs.YtfjbhccapgnkiaaW.PrintLast Go.Proofs.YtfjbhccapgnkiaaW.PrintMore
attribute [local go_sem] max2_int min2_int max_two min_two max_three min_three max_four min_four
set_option linter.unusedVariables false
set_option maxHeartbeats 16000000
set_option maxRecDepth 100000
set_option linter.unusedSimpArgs false
/-! ### What number.Do gives of numbers lent -/
def LRight (p s : Bool) (l : List Int) (x y : Nat) (r : Bool) : Prop := ∀ (W : World) (g : Nat), Lnt W g l → Calls Try.prog 58 #[.agg #[.bool p, .bool s, .slice (some ⟨g, 0, none⟩) l.length (l.length + 8), .complex .f64 x y]] W fun e w' => e = .returned (.bool r) ∧ Below W.heap.size W w'
theorem l58 {p s : Bool} {l : List Int} {x y : Nat} {r : Bool} (h : LRight p s l x y r) {W : World} {g : Nat} (hL : Lnt W g l) : Gives58 W (.agg #[.bool p, .bool s, .slice (some ⟨g, 0, none⟩) l.length (l.length + 8), .complex .f64 x y]) r := fun W' hb => h W' g (Lnt.below hL hb)
def RZ : Bool → Bool → List Int → Nat → Nat → Bool → Int → Prop := fun rp rs rl re im rb er => rp = false ∧ rs = false ∧ rl = [] ∧ re = 0 ∧ im = 0 ∧ rb = false ∧ er = 1
def RP (op : Int) (a b : Nat) (k : Bool) (c d : Nat) (m : Bool) : Bool → Bool → List Int → Nat → Nat → Bool → Int → Prop := fun rp rs rl re im rb er => PairsR op a b k c d m rp re im rb er ∧ rs = false ∧ rl = []
def RA (rn : Bool) (r : List Int) (e : Int) : Bool → Bool → List Int → Nat → Nat → Bool → Int → Prop := fun rp rs rl re im rb er => rp = false ∧ rs = rn ∧ rl = r ∧ re = 0 ∧ im = 0 ∧ rb = false ∧ er = e
def RC (t : Bool) : Bool → Bool → List Int → Nat → Nat → Bool → Int → Prop := fun rp rs rl re im rb er => rp = false ∧ rs = false ∧ rl = [] ∧ re = 0 ∧ im = 0 ∧ rb = t ∧ er = 0
theorem ldo_badr (op : Int) (a1 : 0 ≤ op) (a0 : op ≤ 7) {p s : Bool} {l : List Int} {x y : Nat} {p2 s2 : Bool} {l2 : List Int} {x2 y2 : Nat} {r1 r2 : Bool} (h : (r1 && r2) = false) (h1 : LRight p s l x y r1) (h2 : LRight p2 s2 l2 x2 y2 r2) : LDo op p s l x y p2 s2 l2 x2 y2 RZ := by
 intro W g g2 hL hL2
 cases r1
 ·refine (number_Do.badx op p s (some ⟨g, 0, none⟩) (l.length + 8) l x y p2 s2 (some ⟨g2, 0, none⟩) (l2.length + 8) l2 x2 y2 a1 a0 W (l58 h1 hL)).mono ?_
  rintro e w' ⟨rfl, hb⟩
  exact ⟨_, _, _, _, _, _, _, _, rfl, ⟨rfl, rfl, rfl, rfl, rfl, rfl, rfl⟩, Kd.R_nil _ _ _ _ _, hb⟩
 ·cases r2
  ·refine (number_Do.bady op p s (some ⟨g, 0, none⟩) (l.length + 8) l x y p2 s2 (some ⟨g2, 0, none⟩) (l2.length + 8) l2 x2 y2 a1 a0 W (l58 h1 hL) (l58 h2 hL2)).mono ?_
   rintro e w' ⟨rfl, hb⟩
   exact ⟨_, _, _, _, _, _, _, _, rfl, ⟨rfl, rfl, rfl, rfl, rfl, rfl, rfl⟩, Kd.R_nil _ _ _ _ _, hb⟩
  ·cases h
theorem ldo_pairs (op : Int) (ho0 : 0 ≤ op) (ho7 : op ≤ 7) {p s : Bool} {l : List Int} {x y : Nat} {p2 s2 : Bool} {l2 : List Int} {x2 y2 : Nat} (hpp : p = true ∨ (p = false ∧ p2 = true) ∨ (p = false ∧ p2 = false ∧ op = 3)) (h1 : LRight p s l x y true) (h2 : LRight p2 s2 l2 x2 y2 true) {a b : Nat} {k : Bool} {c d : Nat} {m : Bool}
  (g1 : ∀ (W : World) (g : Nat), Lnt W g l → Gives118 W (.agg #[.bool p, .bool s, .slice (some ⟨g, 0, none⟩) l.length (l.length + 8), .complex .f64 x y]) a b k) (g2 : ∀ (W : World) (g : Nat), Lnt W g l2 → Gives118 W (.agg #[.bool p2, .bool s2, .slice (some ⟨g, 0, none⟩) l2.length (l2.length + 8), .complex .f64 x2 y2]) c d m) : LDo op p s l x y p2 s2 l2 x2 y2 (RP op a b k c d m) := by
 intro W g g' hL hL2
 refine (number_Do.pairs op p s (some ⟨g, 0, none⟩) l.length (l.length + 8) x y p2 s2 (some ⟨g', 0, none⟩) l2.length (l2.length + 8) x2 y2 a b k c d m ho0 ho7 hpp W (l58 h1 hL) (l58 h2 hL2) (g1 W g hL) (g2 W g' hL2)).mono ?_
 rintro e w' ⟨rp, re, im, rb, er, rfl, hr, hb⟩
 exact ⟨_, rp, false, [], re, im, rb, er, rfl, ⟨hr, rfl, rfl⟩, Kd.R_nil _ _ _ _ _, hb⟩
theorem ldo_arith (op : Int) (f : Nat) (hop : (op = 0 ∧ f = 29) ∨ (op = 1 ∧ f = 31) ∨ (op = 2 ∧ f = 26) ∨ (op = 4 ∧ f = 20) ∨ (op = 5 ∧ f = 22)) {s : Bool} {l : List Int} {x y : Nat} {s2 : Bool} {l2 : List Int} {x2 y2 : Nat} (h1 : LRight false s l x y true) (h2 : LRight false s2 l2 x2 y2 true) {rn : Bool} {rl : List Int} {er : Int}
  (ha : ∀ (W : World) (g g2 : Nat), Lnt W g l → Lnt W g2 l2 → GivesA f W (.agg #[.bool s, .slice (some ⟨g, 0, none⟩) l.length (l.length + 8)]) (.agg #[.bool s2, .slice (some ⟨g2, 0, none⟩) l2.length (l2.length + 8)]) rn rl er) : LDo op false s l x y false s2 l2 x2 y2 (RA rn rl er) := by
 intro W g g2 hL a0
 refine (number_Do.arith op f s (some ⟨g, 0, none⟩) (l.length + 8) l x y s2 (some ⟨g2, 0, none⟩) (l2.length + 8) l2 x2 y2 rn rl er hop W (l58 h1 hL) (l58 h2 a0) (ha W g g2 hL a0)).mono ?_
 rintro e w' ⟨v_, rfl, hR, hb⟩
 exact ⟨v_, _, _, _, _, _, _, _, rfl, ⟨rfl, rfl, rfl, rfl, rfl, rfl, rfl⟩, hR, hb⟩
theorem ldo_cmp (op : Int) {s : Bool} {l : List Int} {x y : Nat} {s2 : Bool} {l2 : List Int} {x2 y2 : Nat} (hl : l.length ≤ 140737488351232) (hl2 : l2.length ≤ 140737488351232) (h1 : LRight false s l x y true) (h2 : LRight false s2 l2 x2 y2 true) {k : Nat} {c : Int} {r : Bool}
  (hop : (op = 6 ∧ c = 0 ∧ r = true) ∨ (op = 6 ∧ c < 0 ∧ r = false) ∨ (op = 6 ∧ 0 < c ∧ r = false) ∨ (op = 7 ∧ c = 0 ∧ r = false) ∨ (op = 7 ∧ c < 0 ∧ r = true) ∨ (op = 7 ∧ 0 < c ∧ r = false)) (hk : whole_Cmp.f k s l s2 l2 = some c) : LDo op false s l x y false s2 l2 x2 y2 (RC r) := by
 intro W g g2 hL a0
 refine (number_Do.cmp op s (some ⟨g, 0, none⟩) (l.length + 8) l x y s2 (some ⟨g2, 0, none⟩) (l2.length + 8) l2 x2 y2 k c r hop W (l58 h1 hL) (l58 h2 a0) (Lnt.read hL hl) (Nat.le_add_right _ _) (Lnt.read a0 hl2) (Nat.le_add_right _ _) hk).mono ?_
 rintro e w' ⟨rfl, hb⟩
 exact ⟨_, _, _, _, _, _, _, _, rfl, ⟨rfl, rfl, rfl, rfl, rfl, rfl, rfl⟩, Kd.R_nil _ _ _ _ _, hb⟩
theorem lright (p s : Bool) (l : List Int) (x y : Nat) (hl : l.length ≤ 140737488351232) : LRight p s l x y (rightN p s l x y (okN s l)) := by
 intro W g hL
 have hr := Lnt.read hL hl
 have hc : l.length ≤ l.length + 8 := Nat.le_add_right _ _
 have ho := right_eq s l
 cases p
 ·cases hk : okN s l
  ·rw [hk] at ho
   exact number_Right.wn _ _ _ x y s W hr hc ho
  ·rw [hk] at ho
   by_cases h1 : bitsN x = 0
   ·by_cases h2 : bitsN y = 0
    ·have h := number_Right.wy _ _ _ x y s h1 h2 W hr hc ho
     rw [show rightN false s l x y true = true from by unfold rightN; simp [h1, h2]]
     exact h
    ·have h := number_Right.wb _ _ _ x y s h1 h2 W hr hc ho
     rw [show rightN false s l x y true = false from by unfold rightN; simp [h1, h2]]
     exact h
   ·have h := number_Right.wa _ _ _ x y s h1 W hr hc ho
    rw [show rightN false s l x y true = false from by unfold rightN; simp [h1]]
    exact h
 ·cases s
  ·by_cases h0 : (l.length : Int) = 0
   ·have h := number_Right.pf0 _ _ _ x y h0 W hr hc
    rw [show rightN true false l x y (okN false l) = true from by have h9 : l.length = 0 := (by omega); unfold rightN; rw [if_pos rfl, h9]; rfl]
    exact h
   ·have h := number_Right.pf1 _ _ _ x y h0 W hr hc
    rw [show rightN true false l x y (okN false l) = false from by have h9 : l.length ≠ 0 := (by omega); unfold rightN; rw [if_pos rfl, decide_eq_false h9]; rfl]
    exact h
  ·have h := number_Right.pt _ _ _ x y W hr hc
   exact h
open Lap
/-! ### NumberDoes: the law -/
theorem ldo_out (op : Int) (ho : op < 0 ∨ op > 7) {p s : Bool} {l : List Int} {x y : Nat} {p2 s2 : Bool} {l2 : List Int} {x2 y2 : Nat} : LDo op p s l x y p2 s2 l2 x2 y2 RZ := by
 intro W g g2 hL hL2
 rcases ho with ho | ho
 ·refine (number_Do.badl op p s (some ⟨g, 0, none⟩) (l.length + 8) l x y p2 s2 (some ⟨g2, 0, none⟩) (l2.length + 8) l2 x2 y2 ho W).mono ?_
  rintro e w' ⟨rfl, hb⟩
  exact ⟨_, _, _, _, _, _, _, _, rfl, ⟨rfl, rfl, rfl, rfl, rfl, rfl, rfl⟩, Kd.R_nil _ _ _ _ _, hb⟩
 ·refine (number_Do.badg op p s (some ⟨g, 0, none⟩) (l.length + 8) l x y p2 s2 (some ⟨g2, 0, none⟩) (l2.length + 8) l2 x2 y2 ho W).mono ?_
  rintro e w' ⟨rfl, hb⟩
  exact ⟨_, _, _, _, _, _, _, _, rfl, ⟨rfl, rfl, rfl, rfl, rfl, rfl, rfl⟩, Kd.R_nil _ _ _ _ _, hb⟩
def RPR (op : Int) (a b : Nat) (k : Bool) (c d : Nat) (m : Bool) : Bool → Bool → List Int → Nat → Nat → Bool → Int → Prop := fun rp rs rl re im rb er => RPairsR op a b k c d m rp re im rb er ∧ rs = false ∧ rl = []
theorem g96 {w v : World} {x : Value} {r : Bool} (h : Gives96 w x r) (hb : Below w.heap.size w v) : Gives96 v x r := fun W hW => h W (below_step hb hW)
def RDo (w : World) (op : Int) (X Y : Value) (R : Bool → Bool → List Int → Nat → Nat → Bool → Int → Prop) : Prop := ∀ W : World, Below w.heap.size w W → Calls Try.prog 53 #[.int .i64 op, X, Y] W fun e w' => RDoE R W w' e
section
variable {w : World} {op : Int} {xp xs : Bool} {Ax : Option Addr} {cx : Nat} {lx : List Int} {xa xb : Nat} {yp ys : Bool} {Ay : Option Addr} {cy : Nat} {ly : List Int} {ya yb : Nat} {r1 r2 : Bool}
theorem rdo_bad (h : (r1 && r2) = false ∨ op < 0 ∨ op > 7) (h1 : Gives96 w (.agg #[.bool xp, .bool xs, .slice Ax lx.length cx, .float .f64 xa, .float .f64 xb]) r1) (h2 : Gives96 w (.agg #[.bool yp, .bool ys, .slice Ay ly.length cy, .float .f64 ya, .float .f64 yb]) r2) :
  RDo w op (.agg #[.bool xp, .bool xs, .slice Ax lx.length cx, .float .f64 xa, .float .f64 xb]) (.agg #[.bool yp, .bool ys, .slice Ay ly.length cy, .float .f64 ya, .float .f64 yb]) RZ := by
 intro W hb
 have g1 := g96 h1 hb
 have g2 := g96 h2 hb
 have fin : ∀ (e : Ending) (w' : World), (e = .returned (.tuple #[.agg #[.bool false, .bool false, .slice none 0 0, .float .f64 0, .float .f64 0], .bool false, .int .i64 1]) ∧ Below W.heap.size W w') → RDoE RZ W w' e := by
  rintro e w' ⟨rfl, hb⟩
  exact ⟨_, _, _, _, _, _, _, _, rfl, ⟨rfl, rfl, rfl, rfl, rfl, rfl, rfl⟩, Kd.R_nil _ _ _ _ _, hb⟩
 cases r1
 ·exact (ref_Do.badx op xp xs Ax cx lx xa xb yp ys Ay cy ly ya yb W g1).mono fin
 ·cases r2
  ·exact (ref_Do.bady op xp xs Ax cx lx xa xb yp ys Ay cy ly ya yb W g1 g2).mono fin
  ·rcases h with h | h | h
   ·cases h
   ·exact (ref_Do.badl op xp xs Ax cx lx xa xb yp ys Ay cy ly ya yb h W g1 g2).mono fin
   ·exact (ref_Do.badg op xp xs Ax cx lx xa xb yp ys Ay cy ly ya yb h W g1 g2).mono fin
theorem rpairs {nx ny : Nat} (ho0 : 0 ≤ op) (ho7 : op ≤ 7) {xt : Bool} {xA : Option Addr} {xn xc xr xi : Nat} {xk : Bool} {yt : Bool} {yA : Option Addr} {yn yc yr yi : Nat} {yk : Bool}
  (hwx : Gives121 w (.agg #[.bool xp, .bool xs, .slice Ax nx cx, .float .f64 xa, .float .f64 xb]) xt xA xn xc xr xi (eK xk)) (hwy : Gives121 w (.agg #[.bool yp, .bool ys, .slice Ay ny cy, .float .f64 ya, .float .f64 yb]) yt yA yn yc yr yi (eK yk)) :
  Calls Try.prog 97 #[.int .i64 op, .agg #[.bool xp, .bool xs, .slice Ax nx cx, .float .f64 xa, .float .f64 xb], .agg #[.bool yp, .bool ys, .slice Ay ny cy, .float .f64 ya, .float .f64 yb]] w fun e w' => RPairsE op xr xi xk yr yi yk w w' e := by
 by_cases h4 : op = 4 ∨ op = 5 ∨ op = 7
 ·exact ref_pairs.kind op xp xs Ax nx cx xa xb yp ys Ay ny cy ya yb xr xi xk yr yi yk h4 w
 ·refine ref_pairs.go op xp xs Ax nx cx xa xb yp ys Ay ny cy ya yb xt xA xn xc xr xi xk yt yA yn yc yr yi yk (eK xk) (eK yk) w hwx hwy ?_
  have h : op = 0 ∨ op = 1 ∨ op = 2 ∨ op = 3 ∨ op = 6 := by omega
  generalize (FloatKind.f64.format.order yr 0 == some Ordering.eq) = b1
  generalize (FloatKind.f64.format.order yi 0 == some Ordering.eq) = b2
  generalize (FloatKind.f64.format.order xr yr == some Ordering.eq) = b3
  rcases h with rfl | rfl | rfl | rfl | rfl <;> cases xk <;> cases yk <;> cases b1 <;> cases b2 <;> cases b3 <;> simp [eK]
theorem rdo_pairs (a1 : 0 ≤ op) (a0 : op ≤ 7) (hpp : xp = true ∨ (xp = false ∧ yp = true) ∨ (xp = false ∧ yp = false ∧ op = 3)) {xt : Bool} {xA : Option Addr} {xn xc xr xi : Nat} {xk : Bool} {yt : Bool} {yA : Option Addr} {yn yc yr yi : Nat} {yk : Bool}
  (h1 : Gives96 w (.agg #[.bool xp, .bool xs, .slice Ax lx.length cx, .float .f64 xa, .float .f64 xb]) true) (h2 : Gives96 w (.agg #[.bool yp, .bool ys, .slice Ay ly.length cy, .float .f64 ya, .float .f64 yb]) true)
  (hwx : Gives121 w (.agg #[.bool xp, .bool xs, .slice Ax lx.length cx, .float .f64 xa, .float .f64 xb]) xt xA xn xc xr xi (eK xk)) (hwy : Gives121 w (.agg #[.bool yp, .bool ys, .slice Ay ly.length cy, .float .f64 ya, .float .f64 yb]) yt yA yn yc yr yi (eK yk)) :
  RDo w op (.agg #[.bool xp, .bool xs, .slice Ax lx.length cx, .float .f64 xa, .float .f64 xb]) (.agg #[.bool yp, .bool ys, .slice Ay ly.length cy, .float .f64 ya, .float .f64 yb]) (RPR op xr xi xk yr yi yk) := by
 intro W hb
 have g1 := g96 h1 hb
 have g2 := g96 h2 hb
 have hp : ∀ W' : World, Below W.heap.size W W' → Calls Try.prog 97 #[.int .i64 op, .agg #[.bool xp, .bool xs, .slice Ax lx.length cx, .float .f64 xa, .float .f64 xb], .agg #[.bool yp, .bool ys, .slice Ay ly.length cy, .float .f64 ya, .float .f64 yb]] W' fun e w' => RPairsE op xr xi xk yr yi yk W' w' e :=
  fun W' hb' => rpairs a1 a0 (Gives121.later hwx (below_step hb hb')) (Gives121.later hwy (below_step hb hb'))
 have fin : ∀ (e : Ending) (w' : World), RPairsE op xr xi xk yr yi yk W w' e → RDoE (RPR op xr xi xk yr yi yk) W w' e := by
  rintro e w' ⟨p, re, im, b, er, rfl, hr, hb⟩
  exact ⟨_, p, false, [], re, im, b, er, rfl, ⟨hr, rfl, rfl⟩, Kd.R_nil _ _ _ _ _, hb⟩
 rcases hpp with rfl | ⟨rfl, rfl⟩ | ⟨rfl, rfl, rfl⟩
 ·exact (ref_Do.px op xs Ax cx lx xa xb ys Ay cy ly ya yb yp xr xi xk yr yi yk a1 a0 W g1 g2 hp).mono fin
 ·exact (ref_Do.py op xs Ax cx lx xa xb ys Ay cy ly ya yb xr xi xk yr yi yk a1 a0 W g1 g2 hp).mono fin
 ·exact (ref_Do.po xs Ax cx lx xa xb ys Ay cy ly ya yb xr xi xk yr yi yk W g1 g2 hp).mono fin
theorem rdo_arith {f : Nat} (hop : (op = 0 ∧ f = 30) ∨ (op = 1 ∧ f = 32) ∨ (op = 2 ∧ f = 27) ∨ (op = 4 ∧ f = 21) ∨ (op = 5 ∧ f = 23)) {rn : Bool} {rl : List Int} {er : Int}
  (h1 : Gives96 w (.agg #[.bool false, .bool xs, .slice Ax lx.length cx, .float .f64 xa, .float .f64 xb]) true) (h2 : Gives96 w (.agg #[.bool false, .bool ys, .slice Ay ly.length cy, .float .f64 ya, .float .f64 yb]) true)
  (ha : GivesA f w (.agg #[.bool xs, .slice Ax lx.length cx]) (.agg #[.bool ys, .slice Ay ly.length cy]) rn rl er) :
  RDo w op (.agg #[.bool false, .bool xs, .slice Ax lx.length cx, .float .f64 xa, .float .f64 xb]) (.agg #[.bool false, .bool ys, .slice Ay ly.length cy, .float .f64 ya, .float .f64 yb]) (RA rn rl er) := by
 intro W hb
 refine (ref_Do.arith op f xs Ax cx lx xa xb ys Ay cy ly ya yb rn rl er hop W (g96 h1 hb) (g96 h2 hb) (fun W' hb' => ha W' (below_step hb hb'))).mono ?_
 rintro e w' ⟨v_, rfl, hR, hb⟩
 exact ⟨v_, _, _, _, _, _, _, _, rfl, ⟨rfl, rfl, rfl, rfl, rfl, rfl, rfl⟩, hR, hb⟩
theorem rdo_cmp {k : Nat} {c : Int} {r : Bool} (hop : (op = 6 ∧ c = 0 ∧ r = true) ∨ (op = 6 ∧ c < 0 ∧ r = false) ∨ (op = 6 ∧ 0 < c ∧ r = false) ∨ (op = 7 ∧ c = 0 ∧ r = false) ∨ (op = 7 ∧ c < 0 ∧ r = true) ∨ (op = 7 ∧ 0 < c ∧ r = false))
  (h1 : Gives96 w (.agg #[.bool false, .bool xs, .slice Ax lx.length cx, .float .f64 xa, .float .f64 xb]) true) (h2 : Gives96 w (.agg #[.bool false, .bool ys, .slice Ay ly.length cy, .float .f64 ya, .float .f64 yb]) true)
  (hrx : Kd.C (Kd.int .u8) w Ax lx.length lx) (hcx : lx.length ≤ cx) (hry : Kd.C (Kd.int .u8) w Ay ly.length ly) (hcy : ly.length ≤ cy) (hk : lapidaryref02_Cmp.f k xs lx ys ly = some c) :
  RDo w op (.agg #[.bool false, .bool xs, .slice Ax lx.length cx, .float .f64 xa, .float .f64 xb]) (.agg #[.bool false, .bool ys, .slice Ay ly.length cy, .float .f64 ya, .float .f64 yb]) (RC r) := by
 intro W hb
 refine (ref_Do.cmp op xs Ax cx lx xa xb ys Ay cy ly ya yb k c r hop W (g96 h1 hb) (g96 h2 hb) (Kd.C_below hrx hb) hcx (Kd.C_below hry hb) hcy hk).mono ?_
 rintro e w' ⟨rfl, hb⟩
 exact ⟨_, _, _, _, _, _, _, _, rfl, ⟨rfl, rfl, rfl, rfl, rfl, rfl, rfl⟩, Kd.R_nil _ _ _ _ _, hb⟩
end
/-- What the two give is alike. -/
theorem pairs_alike {op : Int} {a b : Nat} {k : Bool} {c d : Nat} {m : Bool} (hd : d < 18446744073709551616) {p : Bool} {re im : Nat} {t : Bool} {e : Int} {p' : Bool} {re' im' : Nat} {t' : Bool} {e' : Int} (h : PairsR op a b k c d m p re im t e) (h' : RPairsR op a b k c d m p' re' im' t' e') : p = p' ∧ bsame re re' = true ∧ bsame im im' = true ∧ t = t' ∧ e = e' := by
 unfold PairsR at h
 unfold RPairsR at h'
 rcases h with ⟨h0, rfl, rfl, rfl, rfl, rfl⟩ | ⟨h0, rfl, rfl, rfl, rfl, rfl⟩ | ⟨h0, h1, rfl, rfl, rfl, rfl, rfl⟩ | ⟨h0, h1, h2, rfl, rfl, rfl, rfl, rfl⟩ | ⟨h1, rfl, rfl, rfl, h2⟩ <;>
 rcases h' with ⟨g0, rfl, rfl, rfl, rfl, rfl⟩ | ⟨g0, rfl, rfl, rfl, rfl, rfl⟩ | ⟨g0, g1, rfl, rfl, rfl, rfl, rfl⟩ | ⟨g0, g1, g2, rfl, rfl, rfl, rfl, rfl⟩ | ⟨g1, rfl, rfl, rfl, g2⟩ <;>
 first
 | exact ⟨rfl, bsame_of rfl, bsame_of rfl, rfl, rfl⟩
 | (exfalso; omega)
 | (exfalso; simp_all; done)
 | (exfalso; rcases h2 with ⟨h2, _⟩ | ⟨h2, _⟩ | ⟨h2, _⟩ | ⟨h2, _⟩ <;> omega)
 | (exfalso; rcases g2 with ⟨g2, _⟩ | ⟨g2, _⟩ | ⟨g2, _⟩ | ⟨g2, _⟩ <;> omega)
 | (exfalso; rcases h2 with ⟨h2, _⟩ | ⟨h2, _⟩ | ⟨h2, _⟩ | ⟨h2, h3, _⟩ <;> first | omega | (rw [h3] at g2; cases g2))
 | (exfalso; rcases g2 with ⟨g2, _⟩ | ⟨g2, _⟩ | ⟨g2, _⟩ | ⟨g2, g3, _⟩ <;> first | omega | (rw [g3] at h2; cases h2))
 | skip
 rcases h2 with ⟨h0, f1, f2⟩ | ⟨h0, f1, f2⟩ | ⟨h0, f1⟩ | ⟨h0, _, f1⟩ <;> rcases g2 with ⟨g0, q1, q2⟩ | ⟨g0, q1, q2⟩ | ⟨g0, q1⟩ | ⟨g0, _, q1⟩ <;> first | (exfalso; omega) | skip
 ·exact ⟨rfl, bsame_of (FO.alike op_add rfl rfl f1 q1), bsame_of (FO.alike op_add rfl rfl f2 q2), rfl, rfl⟩
 ·exact ⟨rfl, bsame_of (FO.alike op_sub rfl rfl f1 q1), bsame_of (FO.alike op_sub rfl rfl f2 q2), rfl, rfl⟩
 ·have q := TimesR.alike rfl rfl rfl rfl f1 q1
  exact ⟨rfl, bsame_of q.1, bsame_of q.2, rfl, rfl⟩
 ·have q := OverR.alike hd f1 q1
  exact ⟨rfl, bsame_of q.1, bsame_of q.2, rfl, rfl⟩
theorem small_no (s : Bool) (l : List Int) (h : (smallS s l).2 = false) : (smallS s l).1 = 0 := by
 unfold smallS smallV at *
 by_cases h1 : (okN s l && decide (l.length ≤ 8)) = true
 ·rw [if_pos h1] at h ⊢
  by_cases h2 : s = true
  ·rw [if_pos h2] at h ⊢
   by_cases h3 : bI l > 9223372036854775808
   ·rw [if_pos h3]
   ·rw [if_neg h3] at h; cases h
  ·rw [if_neg h2] at h ⊢
   by_cases h3 : bI l ≥ 9223372036854775808
   ·rw [if_pos h3]
   ·rw [if_neg h3] at h; cases h
 ·rw [if_neg h1]
/-- A number as a complex one, of both. -/
theorem wide_both (p s : Bool) (A : Option Addr) (c : Nat) (l : List Int) (x y : Nat) (hl : l.length ≤ 140737488351232) (hb : IsB l) (hy : y < 18446744073709551616) {w : World} (hr : Kd.C (Kd.int .u8) w A l.length l) (hc : l.length ≤ c) : ∃ (r i : Nat) (k : Bool), i < 18446744073709551616 ∧
  (∀ (W : World) (g : Nat), Lnt W g l → Gives118 W (.agg #[.bool p, .bool s, .slice (some ⟨g, 0, none⟩) l.length (l.length + 8), .complex .f64 x y]) r i k) ∧
  ∃ (xt : Bool) (xA : Option Addr) (xn xc : Nat), Gives121 w (.agg #[.bool p, .bool s, .slice A l.length c, .float .f64 x, .float .f64 y]) xt xA xn xc r i (eK k) := by
 cases p
 ·obtain ⟨k1, e1⟩ := (small_ev s l hb).rounds
  obtain ⟨k2, e2⟩ := (rsmall_ev s l hb).rounds
  have hz := small_no s l
  generalize smallS s l = z at e1 e2 hz
  obtain ⟨n, ok⟩ := z
  refine ⟨_, _, ok, ?_, fun W g hL W' hb => number_wide.plain s _ _ l x y k1 n ok W' (Lnt.read (Lnt.below hL hb) hl) (Nat.le_add_right _ _) e1, false, none, 0, 0, fun W hb => ?_⟩
  ·decide
  ·have h := ref_wide.plain s A c l x y k2 n ok _ _ W (Kd.C_below hr hb) hc e2 rfl rfl
   cases ok
   ·obtain rfl : n = 0 := hz rfl
    exact h
   ·exact h
 ·exact ⟨x, y, true, hy, fun W g hL W' hb => number_wide.pair s _ _ l x y W' (Lnt.read (Lnt.below hL hb) hl) (Nat.le_add_right _ _), s, A, l.length, c, fun W hb => ref_wide.pair s A l.length c x y W⟩
theorem does_law (op : Int) (xp xs : Bool) (Ax : Option Addr) (cx : Nat) (lx : List Int) (xa xb : Nat) (yp ys : Bool) (Ay : Option Addr) (cy : Nat) (ly : List Int) (ya yb : Nat) (hbx : IsB lx) (hby : IsB ly) (hxb : xb < 18446744073709551616) (hyb : yb < 18446744073709551616) (w : World)
  (hrx : Kd.C (Kd.int .u8) w Ax lx.length lx) (hcx : lx.length ≤ cx) (hAx : Ax = none → cx = 0) (hlx : lx.length ≤ 140737488351232)
  (hry : Kd.C (Kd.int .u8) w Ay ly.length ly) (hcy : ly.length ≤ cy) (hAy : Ay = none → cy = 0) (hly : ly.length ≤ 140737488351232) :
  Calls Try.prog 11 #[.int .i64 op, .agg #[.bool xp, .bool xs, .slice Ax lx.length cx, .float .f64 xa, .float .f64 xb], .agg #[.bool yp, .bool ys, .slice Ay ly.length cy, .float .f64 ya, .float .f64 yb]] w fun e w' => e = .returned (.bool true) ∧ Below w.heap.size w w' := by
 have hX := lright xp xs lx xa xb hlx
 have hY := lright yp ys ly ya yb hly
 have gX : Gives96 w (.agg #[.bool xp, .bool xs, .slice Ax lx.length cx, .float .f64 xa, .float .f64 xb]) (rightN xp xs lx xa xb (okN xs lx)) := fun W hb => ref_right (Kd.C_below hrx hb) hcx (rright_eq xs lx)
 have gY : Gives96 w (.agg #[.bool yp, .bool ys, .slice Ay ly.length cy, .float .f64 ya, .float .f64 yb]) (rightN yp ys ly ya yb (okN ys ly)) := fun W hb => ref_right (Kd.C_below hry hb) hcy (rright_eq ys ly)
 generalize rightN xp xs lx xa xb (okN xs lx) = rx at hX gX
 generalize rightN yp ys ly ya yb (okN ys ly) = ry at hY gY
 have go := does_walk op xp xs Ax cx lx xa xb yp ys Ay cy ly ya yb
 by_cases hb : (rx && ry) = false ∨ op < 0 ∨ op > 7
 ·refine go RZ RZ w hrx hcx hAx hlx hry hcy hAy hly ?_ (rdo_bad hb gX gY) ?_
  ·by_cases ho : op < 0 ∨ op > 7
   ·exact ldo_out op ho
   ·exact ldo_badr op (by omega) (by omega) (hb.resolve_right ho) hX hY
  ·rintro _ _ _ _ _ _ _ _ _ _ _ _ _ _ ⟨rfl, rfl, rfl, rfl, rfl, rfl, rfl⟩ ⟨rfl, rfl, rfl, rfl, rfl, rfl, rfl⟩
   exact ⟨rfl, rfl, rfl, bsame_of rfl, bsame_of rfl, rfl, rfl, by simp⟩
 ·have a5 : 0 ≤ op := by omega
  have a0 : op ≤ 7 := by omega
  obtain ⟨rfl, rfl⟩ : rx = true ∧ ry = true := by
   have h : ¬ (rx && ry) = false := fun h => hb (.inl h)
   simpa using h
  clear hb
  by_cases hpp : xp = true ∨ (xp = false ∧ yp = true) ∨ (xp = false ∧ yp = false ∧ op = 3)
  ·obtain ⟨a, b, k, _, g1, xt, xA, xn, xc, q1⟩ := wide_both xp xs Ax cx lx xa xb hlx hbx hxb hrx hcx
   obtain ⟨c, d, m, hd, g2, yt, yA, yn, yc, q2⟩ := wide_both yp ys Ay cy ly ya yb hly hby hyb hry hcy
   refine go _ _ w hrx hcx hAx hlx hry hcy hAy hly (ldo_pairs op a5 a0 hpp hX hY g1 g2) (rdo_pairs a5 a0 hpp gX gY q1 q2) ?_
   rintro _ _ _ _ _ _ _ _ _ _ _ _ _ _ ⟨h1, rfl, rfl⟩ ⟨h2, rfl, rfl⟩
   obtain ⟨e1, e2, e3, e4, e5⟩ := pairs_alike hd h1 h2
   exact ⟨e1, rfl, rfl, e2, e3, e4, e5, by simp⟩
  ·obtain rfl : xp = false := by
    cases xp
    ·rfl
    ·exact absurd (.inl rfl) hpp
   obtain rfl : yp = false := by
    cases yp
    ·rfl
    ·exact absurd (.inr (.inl ⟨rfl, rfl⟩)) hpp
   have h3 : op ≠ 3 := fun h => hpp (.inr (.inr ⟨rfl, rfl, h⟩))
   clear hpp
   have ar : ∀ (f f2 : Nat) (zn : Bool) (lz : List Int) (er : Int), lz.length ≤ 140737488355328 → ((op = 0 ∧ f = 29) ∨ (op = 1 ∧ f = 31) ∨ (op = 2 ∧ f = 26) ∨ (op = 4 ∧ f = 20) ∨ (op = 5 ∧ f = 22)) → ((op = 0 ∧ f2 = 30) ∨ (op = 1 ∧ f2 = 32) ∨ (op = 2 ∧ f2 = 27) ∨ (op = 4 ∧ f2 = 21) ∨ (op = 5 ∧ f2 = 23)) →
     (∀ (W : World) (g g2 : Nat), Lnt W g lx → Lnt W g2 ly → GivesA f W (.agg #[.bool xs, .slice (some ⟨g, 0, none⟩) lx.length (lx.length + 8)]) (.agg #[.bool ys, .slice (some ⟨g2, 0, none⟩) ly.length (ly.length + 8)]) zn lz er) →
     GivesA f2 w (.agg #[.bool xs, .slice Ax lx.length cx]) (.agg #[.bool ys, .slice Ay ly.length cy]) zn lz er → Calls Try.prog 11 #[.int .i64 op, .agg #[.bool false, .bool xs, .slice Ax lx.length cx, .float .f64 xa, .float .f64 xb], .agg #[.bool false, .bool ys, .slice Ay ly.length cy, .float .f64 ya, .float .f64 yb]] w fun e w' => e = .returned (.bool true) ∧ Below w.heap.size w w' := by
    intro f f2 zn lz er hlen h1 h2 ha hr
    refine go _ _ w hrx hcx hAx hlx hry hcy hAy hly (ldo_arith op f h1 hX hY ha) (rdo_arith h2 gX gY hr) ?_
    rintro _ _ _ _ _ _ _ _ _ _ _ _ _ _ ⟨rfl, rfl, rfl, rfl, rfl, rfl, rfl⟩ ⟨rfl, rfl, rfl, rfl, rfl, rfl, rfl⟩
    exact ⟨rfl, rfl, rfl, bsame_of rfl, bsame_of rfl, rfl, rfl, hlen⟩
   have cm : ∀ r : Bool, ((op = 6 ∧ cmpS xs lx ys ly = 0 ∧ r = true) ∨ (op = 6 ∧ cmpS xs lx ys ly < 0 ∧ r = false) ∨ (op = 6 ∧ 0 < cmpS xs lx ys ly ∧ r = false) ∨ (op = 7 ∧ cmpS xs lx ys ly = 0 ∧ r = false) ∨ (op = 7 ∧ cmpS xs lx ys ly < 0 ∧ r = true) ∨ (op = 7 ∧ 0 < cmpS xs lx ys ly ∧ r = false)) → Calls Try.prog 11 #[.int .i64 op, .agg #[.bool false, .bool xs, .slice Ax lx.length cx, .float .f64 xa, .float .f64 xb], .agg #[.bool false, .bool ys, .slice Ay ly.length cy, .float .f64 ya, .float .f64 yb]] w fun e w' => e = .returned (.bool true) ∧ Below w.heap.size w w' := by
    intro r hop
    obtain ⟨k5, e5⟩ := (cmp2_ev xs ys lx ly hbx hby).rounds
    obtain ⟨k6, e6⟩ := (rcmp2_ev xs ys lx ly hbx hby).rounds
    refine go _ _ w hrx hcx hAx hlx hry hcy hAy hly (ldo_cmp op hlx hly hX hY hop e5) (rdo_cmp hop gX gY hrx hcx hry hcy e6) ?_
    rintro _ _ _ _ _ _ _ _ _ _ _ _ _ _ ⟨rfl, rfl, rfl, rfl, rfl, rfl, rfl⟩ ⟨rfl, rfl, rfl, rfl, rfl, rfl, rfl⟩
    exact ⟨rfl, rfl, rfl, bsame_of rfl, bsame_of rfl, rfl, rfl, by simp⟩
   have rd : ∀ {W W' : World} {g : Nat} {l : List Int}, l.length ≤ 140737488351232 → Lnt W g l → Below W.heap.size W W' → Kd.C (Kd.int .u8) W' (some ⟨g, 0, none⟩) l.length l := fun hl hL hb => Lnt.read (Lnt.below hL hb) hl
   have hop : op = 0 ∨ op = 1 ∨ op = 2 ∨ op = 4 ∨ op = 5 ∨ op = 6 ∨ op = 7 := by omega
   obtain ⟨a1, a2, a3, a4, zn, lz, er, vn, lv, es, p1, p2, p3, p4, p5, p6⟩ := adds_plain xs ys lx ly hbx hby
   obtain ⟨m1, m2, mn, lm, em, t1, t2, t3⟩ := muls_plain xs ys lx ly hbx hby
   obtain ⟨d1, d2, d3, d4, dn, ld, ed, rn, lr, eq, q1, q2, q3, q4, q5, q6⟩ := divs_plain xs ys lx ly hbx hby
   rcases hop with rfl | rfl | rfl | rfl | rfl | rfl | rfl
   ·exact ar 29 30 zn lz er p3 (by simp) (by simp) (fun W g g2 hL hL2 W' hb => whole_Add.calls a1 xs _ _ lx ys _ _ ly _ _ _ W' (rd hlx hL hb) (Nat.le_add_right _ _) (rd hly hL2 hb) (Nat.le_add_right _ _) p1) (fun W hb => lapidaryref02_Add.calls a2 xs _ _ lx ys _ _ ly _ _ _ W (Kd.C_below hrx hb) hcx (Kd.C_below hry hb) hcy p2)
   ·exact ar 31 32 vn lv es p6 (by simp) (by simp) (fun W g g2 hL hL2 W' hb => whole_Sub.calls a3 xs _ _ lx ys _ _ ly _ _ _ W' (rd hlx hL hb) (Nat.le_add_right _ _) (rd hly hL2 hb) (Nat.le_add_right _ _) p4) (fun W hb => lapidaryref02_Sub.calls a4 xs _ _ lx ys _ _ ly _ _ _ W (Kd.C_below hrx hb) hcx (Kd.C_below hry hb) hcy p5)
   ·exact ar 26 27 mn lm em t3 (by simp) (by simp) (fun W g g2 hL hL2 W' hb => whole_Mul.calls m1 xs _ _ lx ys _ _ ly _ _ _ W' (rd hlx hL hb) (Nat.le_add_right _ _) (rd hly hL2 hb) (Nat.le_add_right _ _) t1) (fun W hb => lapidaryref02_Mul.calls m2 xs _ _ lx ys _ _ ly _ _ _ W (Kd.C_below hrx hb) hcx (Kd.C_below hry hb) hcy t2)
   ·exact ar 20 21 dn ld ed q3 (by simp) (by simp) (fun W g g2 hL hL2 W' hb => whole_Div.calls d1 xs _ _ lx ys _ _ ly _ _ _ W' (rd hlx hL hb) (Nat.le_add_right _ _) (rd hly hL2 hb) (Nat.le_add_right _ _) q1) (fun W hb => lapidaryref02_Div.calls d2 xs _ _ lx ys _ _ ly _ _ _ W (Kd.C_below hrx hb) hcx (Kd.C_below hry hb) hcy q2)
   ·exact ar 22 23 rn lr eq q6 (by simp) (by simp) (fun W g g2 hL hL2 W' hb => whole_Mod.calls d3 xs _ _ lx ys _ _ ly _ _ _ W' (rd hlx hL hb) (Nat.le_add_right _ _) (rd hly hL2 hb) (Nat.le_add_right _ _) q4) (fun W hb => lapidaryref02_Mod.calls d4 xs _ _ lx ys _ _ ly _ _ _ W (Kd.C_below hrx hb) hcx (Kd.C_below hry hb) hcy q5)
   ·refine cm (decide (cmpS xs lx ys ly = 0)) ?_
    by_cases h : cmpS xs lx ys ly = 0
    ·simp [h]
    ·by_cases h2 : cmpS xs lx ys ly < 0
     ·simp [h, h2]
     ·have h4 : 0 < cmpS xs lx ys ly := by omega
      simp [h, h4]
   ·refine cm (decide (cmpS xs lx ys ly < 0)) ?_
    by_cases h : cmpS xs lx ys ly = 0
    ·simp [h]
    ·by_cases h2 : cmpS xs lx ys ly < 0
     ·simp [h2]
     ·have h4 : 0 < cmpS xs lx ys ly := by omega
      simp [h2, h4]
end Go.Proofs.Ytfjbhccapgnkiaa.P
