import Derived.Test.YtfjbhccapgnkiaaN29
namespace Go.Proofs.Ytfjbhccapgnkiaa.P
open Go.RowKit Go.Proofs.YtfjbhccapgnkiaaW.PrintWords Go.Proofs.YtfjbhccapgnkiaaW.PrintLast Go.Proofs.YtfjbhccapgnkiaaW.PrintMore
attribute [local go_sem] max2_int min2_int max_two min_two max_three min_three max_four min_four
set_option linter.unusedVariables false
set_option maxHeartbeats 16000000
set_option maxRecDepth 100000
set_option linter.unusedSimpArgs false
attribute [local go_sem] stC stF
/-! ### lapidaryref06.pairs -/
def eK (k : Bool) : Int := if k = true then 0 else 24
def RPairsR (op : Int) (xr xi : Nat) (xk : Bool) (yr yi : Nat) (yk : Bool) (p : Bool) (re im : Nat) (b : Bool) (er : Int) : Prop :=
  ((op = 4 ∨ op = 5 ∨ op = 7) ∧ p = false ∧ re = 0 ∧ im = 0 ∧ b = false ∧ er = 22) ∨
  (op = 6 ∧ p = false ∧ re = 0 ∧ im = 0 ∧ b = (xk && yk && ceqB xr xi yr yi) ∧ er = 0) ∨
  ((op = 0 ∨ op = 1 ∨ op = 2 ∨ op = 3) ∧ (xk && yk) = false ∧ p = false ∧ re = 0 ∧ im = 0 ∧ b = false ∧ er = 24) ∨
  (op = 3 ∧ (xk && yk) = true ∧ ceqB yr yi 0 0 = true ∧ p = false ∧ re = 0 ∧ im = 0 ∧ b = false ∧ er = 23) ∨
  ((xk && yk) = true ∧ p = true ∧ b = false ∧ er = 0 ∧ ((op = 0 ∧ FO .add xr yr re ∧ FO .add xi yi im) ∨ (op = 1 ∧ FO .sub xr yr re ∧ FO .sub xi yi im) ∨ (op = 2 ∧ TimesR xr xi yr yi re im) ∨ (op = 3 ∧ ceqB yr yi 0 0 = false ∧ ROverR xr xi yr yi re im)))
def RPairsE (op : Int) (xr xi : Nat) (xk : Bool) (yr yi : Nat) (yk : Bool) (w w' : World) (e : Ending) : Prop :=
  ∃ p re im b er, e = .returned (.tuple #[.agg #[.bool p, .bool false, .slice none 0 0, .float .f64 re, .float .f64 im], .bool b, .int .i64 er]) ∧ RPairsR op xr xi xk yr yi yk p re im b er ∧ Below w.heap.size w w'
theorem far5 {W : World} {g h i : Nat} {v a b c d e : Value} (hne : h ≠ g) (hc : W.cell? ⟨h, i, none⟩ = some v) : (World.setCell (World.setCell (World.setCell (World.setCell (World.setCell W ⟨g, 0, none⟩ a) ⟨g, 1, none⟩ b) ⟨g, 2, none⟩ c) ⟨g, 3, none⟩ d) ⟨g, 4, none⟩ e).cell? ⟨h, i, none⟩ = some v := cf ⟨hne⟩ (cf ⟨hne⟩ (cf ⟨hne⟩ (cf ⟨hne⟩ (cf ⟨hne⟩ hc))))
theorem bel5 {v w : World} {g : Nat} {a b c d e : Value} (h : Below v.heap.size v w) (hg : v.heap.size ≤ g) : Below v.heap.size v (World.setCell (World.setCell (World.setCell (World.setCell (World.setCell w ⟨g, 0, none⟩ a) ⟨g, 1, none⟩ b) ⟨g, 2, none⟩ c) ⟨g, 3, none⟩ d) ⟨g, 4, none⟩ e) := below_set (below_set (below_set (below_set (below_set h hg) hg) hg) hg) hg
theorem st5 {v W : World} {g : Nat} {t : TypeId} {p q r s u : Value} (h : Aside0 (W.heap[g]? = some (.cells #[p, q, r, s, u] t (0, 0)))) (hb : Aside0 (Below v.heap.size v W)) (hg : Aside0 (v.heap.size ≤ g)) (a b c d e : Value) :
 ∃ W2, W2 = World.setCell (World.setCell (World.setCell (World.setCell (World.setCell W ⟨g, 0, none⟩ a) ⟨g, 1, none⟩ b) ⟨g, 2, none⟩ c) ⟨g, 3, none⟩ d) ⟨g, 4, none⟩ e ∧ Aside0 (W2.heap[g]? = some (.cells #[a, b, c, d, e] t (0, 0))) ∧ Kept W W2 (fun k => k = g) ∧ Below v.heap.size v W2 := by
 refine ⟨_, rfl, ⟨bp h⟩, ?_, bel5 hb.out hg.out⟩
 exact Kept.setCell (S := fun k => k = g) (Kept.setCell (S := fun k => k = g) (Kept.setCell (S := fun k => k = g) (Kept.setCell (S := fun k => k = g) (Kept.setCell (S := fun k => k = g) (Kept.refl _ _) (p := ⟨g, 0, none⟩) (.inl rfl) _) (p := ⟨g, 1, none⟩) (.inl rfl) _) (p := ⟨g, 2, none⟩) (.inl rfl) _) (p := ⟨g, 3, none⟩) (.inl rfl) _) (p := ⟨g, 4, none⟩) (.inl rfl) _
theorem RPairsE.mk {op : Int} {xr xi : Nat} {xk : Bool} {yr yi : Nat} {yk : Bool} {w w' : World} {e : Ending} (p : Bool) (re im : Nat) (b : Bool) (er : Int) (h : e = .returned (.tuple #[.agg #[.bool p, .bool false, .slice none 0 0, .float .f64 re, .float .f64 im], .bool b, .int .i64 er])) (hr : RPairsR op xr xi xk yr yi yk p re im b er) (hb : Below w.heap.size w w') : RPairsE op xr xi xk yr yi yk w w' e := ⟨p, re, im, b, er, h, hr, hb⟩
section
variable {P : Program} {ops : Array Oper} {Q : Exit → Act → World → Prop} {S : World → Prop} {ds : List Nat} {md : Region.Mode} {T : Bool × List (List Nat × List Nat)} {B : List Nat} {fuel : Nat} {l l' : Array Bool} {a a' : Act} {w : World} {oi : Oper} {v : Value}
theorem pn (HT : Aside0 (rtab md ops = T)) (i : Nat) (N : Option Tmp) (h : wpAnyLast P md ops Q S ds fuel l' a' w) (hi : ops[i]? = some oi := by rfl) (hN : oi.dst = N := by rfl)
    (hl : l.setIfInBounds i true = l' := by (simp only [List.setIfInBounds_toArray, List.set_cons_zero, List.set_cons_succ]; rfl))
    (hc : anyT T l.toList l'.toList i = true := by kernel_rfl) (hQ : ∀ c a w, Q (.panic c) (a.put oi.dst undef) w → Q (.panic c) a w := by exact fun _ _ _ h => h) (hw : Region.wanted oi (yielded ops a.tmps) = false := by rfl)
    (ha : a.put N undef = a' := by (simp only [Act.put, List.setIfInBounds_toArray, List.set_cons_zero, List.set_cons_succ, i64_w, i32_w]; rfl)) : wpAnyLast P md ops Q S ds (fuel + 1) l a w :=
  pure_ (i := i) (N := N) l' hi hN (any_of HT.out hc) hQ (Or.inr ⟨hw, rfl⟩) ha h
end
def ref_pairs.T20 : Bool × List (List Nat × List Nat) := (true, [([], []), ([], []), ([1], [1]), ([], []), ([3], [3]), ([2, 4], [2, 4]), ([5], [5]), ([6], [6]), ([7, 6], [6, 7]), ([6], [6]), ([9, 6], [6, 9]), ([8, 10, 6], [6, 8, 10]), ([6, 11], [6, 11]), ([0, 6, 0], [0]), ([12, 13, 0, 1, 2, 3, 4, 5, 6, 7, 8, 9, 10, 11, 12, 13], [12]), ([14, 0, 1, 2, 3, 4, 5, 6, 7, 8, 9, 10, 11, 12, 13, 14], [])])
def ref_pairs.B20 : List Nat := [0, 0, 2, 0, 8, 30, 62, 126, 254, 126, 638, 2046, 4094, 127, 16383, 32767]
theorem ref_pairs.tab20 : rtab .any (opsOf Try.f97 20) = ref_pairs.T20 := by kernel_rfl
theorem ref_pairs.bits20 : waitsOk ref_pairs.T20.2 ref_pairs.B20 = true := by kernel_rfl
theorem ref_pairs.kind (op : Int) (xp xs : Bool) (Ax : Option Addr) (nx cx : Nat) (xa xb : Nat) (yp ys : Bool) (Ay : Option Addr) (ny cy : Nat) (ya yb : Nat) (xr xi : Nat) (xk : Bool) (yr yi : Nat) (yk : Bool) (ho : op = 4 ∨ op = 5 ∨ op = 7) (w : World) :
 Calls Try.prog 97 #[.int .i64 op, .agg #[.bool xp, .bool xs, .slice Ax nx cx, .float .f64 xa, .float .f64 xb], .agg #[.bool yp, .bool ys, .slice Ay ny cy, .float .f64 ya, .float .f64 yb]] w fun e w' => RPairsE op xr xi xk yr yi yk w w' e := by
 have hu24 := Try.underlying24
 have hu58 := Try.underlying58
 have HBW := Aside0.mk (Below.refl w.heap.size w)
 have Z := Aside0.mk (show w.heap.size ≤ w.heap.size from Nat.le_refl _)
 rcases ho with rfl | rfl | rfl
 all_goals (
  go_enter Try.func97, Try.ntmps97
  go_wp2_with (first | ((with_reducible refine gd 4 rfl ?_); refine bY 4 rfl #[.bool xp, .bool xs, .slice Ax nx cx, .float .f64 xa, .float .f64 xb] 58 ?_; intro b4 hg wa1 hbox hb K_; replace Z := zN Z K_ hg hbox; replace HBW := bS HBW hb; have a0 := Aside0.mk hbox; clear hb hbox hg K_; have a7 := z5 a0) | ((with_reducible refine gd 5 rfl ?_); refine bY 5 rfl #[.bool yp, .bool ys, .slice Ay ny cy, .float .f64 ya, .float .f64 yb] 58 ?_; intro b5 hg wa2 hbox hb K_; replace a0 := mvB a0 K_; replace Z := zN Z K_ hg hbox; replace HBW := bS HBW hb; have a1 := Aside0.mk hbox; clear hb hbox hg K_; replace a7 := z5 a0; have zb5 := z5 a1) | ((with_reducible refine gd 6 rfl ?_); refine bY 6 rfl #[.bool false, .bool false, .slice none 0 0, .float .f64 0, .float .f64 0] 58 ?_; intro b6 hg wa3 hbox hb K_; replace a0 := mvB a0 K_; replace a1 := mvB a1 K_; replace Z := zN Z K_ hg hbox; replace HBW := bS HBW hb; have a2 := Aside0.mk hbox; clear hb hbox hg K_; replace a7 := z5 a0; replace zb5 := z5 a1; have zb6 := zf5 a2; obtain ⟨a5, a3⟩ := neZ Z b6 b4; obtain ⟨a4, a6⟩ := neZ Z b6 b5))
  refine bodyPost_ret (results_ctt3 rfl _ _ b6 58 #[.bool false, .bool false, .slice none 0 0, .float .f64 0, .float .f64 0] (0, 0) _ rfl (bp a2) Try.underlying58 rfl (by kernel_rfl)) rfl ?_; exact RPairsE.mk _ _ _ _ _ rfl (by simp [RPairsR]) (bel5 HBW.out (leZ Z)))
theorem ref_pairs.go (op : Int) (xp xs : Bool) (Ax : Option Addr) (nx cx : Nat) (xa xb : Nat) (yp ys : Bool) (Ay : Option Addr) (ny cy : Nat) (ya yb : Nat) (xt : Bool) (xA : Option Addr) (xn xc xr xi : Nat) (xk : Bool) (yt : Bool) (yA : Option Addr) (yn yc yr yi : Nat) (yk : Bool) (ex ey : Int) (w : World) (hwx : Gives121 w (.agg #[.bool xp, .bool xs, .slice Ax nx cx, .float .f64 xa, .float .f64 xb]) xt xA xn xc xr xi ex) (hwy : Gives121 w (.agg #[.bool yp, .bool ys, .slice Ay ny cy, .float .f64 ya, .float .f64 yb]) yt yA yn yc yr yi ey) (D : (op = 0 ∧ ex = 0 ∧ ey = 0 ∧ xk = true ∧ yk = true) ∨ (op = 1 ∧ ex = 0 ∧ ey = 0 ∧ xk = true ∧ yk = true) ∨ (op = 2 ∧ ex = 0 ∧ ey = 0 ∧ xk = true ∧ yk = true) ∨ (op = 3 ∧ ex = 0 ∧ ey = 0 ∧ xk = true ∧ yk = true ∧ (FloatKind.f64.format.order yr 0 == some Ordering.eq) = false) ∨ (op = 3 ∧ ex = 0 ∧ ey = 0 ∧ xk = true ∧ yk = true ∧ (FloatKind.f64.format.order yr 0 == some Ordering.eq) = true ∧ (FloatKind.f64.format.order yi 0 == some Ordering.eq) = false) ∨ (op = 3 ∧ ex = 0 ∧ ey = 0 ∧ xk = true ∧ yk = true ∧ (FloatKind.f64.format.order yr 0 == some Ordering.eq) = true ∧ (FloatKind.f64.format.order yi 0 == some Ordering.eq) = true) ∨ (op = 6 ∧ ex = 0 ∧ ey = 0 ∧ xk = true ∧ yk = true ∧ (FloatKind.f64.format.order xr yr == some Ordering.eq) = false) ∨ (op = 6 ∧ ex = 0 ∧ ey = 0 ∧ xk = true ∧ yk = true ∧ (FloatKind.f64.format.order xr yr == some Ordering.eq) = true) ∨ (op = 6 ∧ ex = 24 ∧ xk = false) ∨ (op = 6 ∧ ex = 0 ∧ ey = 24 ∧ yk = false) ∨ ((op = 0 ∨ op = 1 ∨ op = 2 ∨ op = 3) ∧ ex = 24 ∧ xk = false) ∨ ((op = 0 ∨ op = 1 ∨ op = 2 ∨ op = 3) ∧ ex = 0 ∧ ey = 24 ∧ yk = false)) :
 Calls Try.prog 97 #[.int .i64 op, .agg #[.bool xp, .bool xs, .slice Ax nx cx, .float .f64 xa, .float .f64 xb], .agg #[.bool yp, .bool ys, .slice Ay ny cy, .float .f64 ya, .float .f64 yb]] w fun e w' => RPairsE op xr xi xk yr yi yk w w' e := by
 have hu24 := Try.underlying24
 have hu58 := Try.underlying58
 have h4 : (op == 4) = false := beq_eq_false_iff_ne.2 (by intro h_; subst h_; simp at D)
 have h5 : (op == 5) = false := beq_eq_false_iff_ne.2 (by intro h_; subst h_; simp at D)
 have h7 : (op == 7) = false := beq_eq_false_iff_ne.2 (by intro h_; subst h_; simp at D)
 replace hwx := Aside0.mk hwx
 replace hwy := Aside0.mk hwy
 replace D := Aside0.mk D
 have HBW := Aside0.mk (Below.refl w.heap.size w)
 have Z := Aside0.mk (show w.heap.size ≤ w.heap.size from Nat.le_refl _)
 go_enter Try.func97, Try.ntmps97
 go_upto_region 4 with (first | ((with_reducible refine gd 4 rfl ?_); refine bY 4 rfl #[.bool xp, .bool xs, .slice Ax nx cx, .float .f64 xa, .float .f64 xb] 58 ?_; intro b4 hg wa1 hbox hb K_; replace Z := zN Z K_ hg hbox; replace HBW := bS HBW hb; have a2 := Aside0.mk hbox; clear hb hbox hg K_; have a9 := z5 a2) | ((with_reducible refine gd 5 rfl ?_); refine bY 5 rfl #[.bool yp, .bool ys, .slice Ay ny cy, .float .f64 ya, .float .f64 yb] 58 ?_; intro b5 hg wa2 hbox hb K_; replace a2 := mvB a2 K_; replace Z := zN Z K_ hg hbox; replace HBW := bS HBW hb; have a3 := Aside0.mk hbox; clear hb hbox hg K_; replace a9 := z5 a2; have aa := z5 a3) | ((with_reducible refine gd 6 rfl ?_); refine bY 6 rfl #[.bool false, .bool false, .slice none 0 0, .float .f64 0, .float .f64 0] 58 ?_; intro b6 hg wa3 hbox hb K_; replace a2 := mvB a2 K_; replace a3 := mvB a3 K_; replace Z := zN Z K_ hg hbox; replace HBW := bS HBW hb; have a0 := Aside0.mk hbox; clear hb hbox hg K_; replace a9 := z5 a2; replace aa := z5 a3; have a8 := zf5 a0; obtain ⟨aF, aD⟩ := neZ Z b6 b4; obtain ⟨aE, aH⟩ := neZ Z b6 b5) | ((with_reducible refine gd 26 rfl ?_); refine gU ?_; refine gc (some 26) Try.func121 #[.agg #[.bool xp, .bool xs, .slice Ax nx cx, .float .f64 xa, .float .f64 xb]] (hwx.out _ HBW.out) ?_; rintro e wa4 ⟨rfl, hb⟩; refine ⟨_, rfl, ?_⟩; have K_ := kb hb; replace a2 := mvB a2 K_; replace a3 := mvB a3 K_; replace a0 := mvB a0 K_; replace Z := zA Z (K_.1); replace HBW := bS HBW hb; clear hb K_; replace a9 := z5 a2; replace aa := z5 a3; replace a8 := zf5 a0) | ((with_reducible refine gd 9 rfl ?_); refine bY 9 rfl #[.bool false, .bool false, .slice none 0 0, .float .f64 0, .float .f64 0] 58 ?_; intro b9 hg wa5 hbox hb K_; replace a2 := mvB a2 K_; replace a3 := mvB a3 K_; replace a0 := mvB a0 K_; replace Z := zN Z K_ hg hbox; have a4 := Aside0.mk hbox; have ao := Aside0.mk hb; have al := Aside0.mk (Nat.le_of_eq hg.symm); clear hb hbox hg K_; replace a9 := z5 a2; replace aa := z5 a3; replace a8 := zf5 a0; obtain ⟨am, ac⟩ := neZ Z b6 b9; have ab := zf5 a4; obtain ⟨aG, ak⟩ := neZ Z b9 b4; obtain ⟨aC, ap⟩ := neZ Z b9 b5))
 obtain ⟨wa6, hwS, aq, K_, hb⟩ := st5 a4 ao al (.bool true) (.bool xt) (.slice xA xn xc) (.float .f64 xr) (.float .f64 xi); rw [← hwS]; clear hwS; replace a2 := sB a2 K_ ak; replace a3 := sB a3 K_ ap; replace a0 := sB a0 K_ am; replace Z := zA Z (K_.1); clear K_ a4; have a4 := aq; have K_ := kb hb; replace Z := zA Z (K_.1); replace HBW := bS HBW hb; clear K_ aq hb ao al; replace a9 := z5 a2; replace aa := z5 a3; replace a8 := zf5 a0; replace ab := z5 a4
 go_upto_region 5 with (first | ((with_reducible refine gd 31 rfl ?_); refine gU ?_; refine gc (some 31) Try.func121 #[.agg #[.bool yp, .bool ys, .slice Ay ny cy, .float .f64 ya, .float .f64 yb]] (hwy.out _ HBW.out) ?_; rintro e wa7 ⟨rfl, hb⟩; refine ⟨_, rfl, ?_⟩; have K_ := kb hb; replace a2 := mvB a2 K_; replace a3 := mvB a3 K_; replace a0 := mvB a0 K_; replace a4 := mvB a4 K_; replace Z := zA Z (K_.1); replace HBW := bS HBW hb; clear hb K_; replace a9 := z5 a2; replace aa := z5 a3; replace a8 := zf5 a0; replace ab := z5 a4) | ((with_reducible refine gd 11 rfl ?_); refine bY 11 rfl #[.bool false, .bool false, .slice none 0 0, .float .f64 0, .float .f64 0] 58 ?_; intro ae hg wa8 hbox hb K_; replace a2 := mvB a2 K_; replace a3 := mvB a3 K_; replace a0 := mvB a0 K_; replace a4 := mvB a4 K_; replace Z := zN Z K_ hg hbox; have a1 := Aside0.mk hbox; have ao := Aside0.mk hb; have al := Aside0.mk (Nat.le_of_eq hg.symm); clear hb hbox hg K_; replace a9 := z5 a2; replace aa := z5 a3; replace a8 := zf5 a0; obtain ⟨ai, a7⟩ := neZ Z b6 ae; replace ab := z5 a4; have a6 := zf5 a1; obtain ⟨au, aj⟩ := neZ Z ae b4; obtain ⟨av, af⟩ := neZ Z ae b5; obtain ⟨ar, ah⟩ := neZ Z ae b9))
 obtain ⟨aB, hwS, aq, K_, hb⟩ := st5 a1 ao al (.bool true) (.bool yt) (.slice yA yn yc) (.float .f64 yr) (.float .f64 yi); rw [← hwS]; clear hwS; replace a2 := sB a2 K_ aj; replace a3 := sB a3 K_ af; replace a0 := sB a0 K_ ai; replace a4 := sB a4 K_ ah; replace Z := zA Z (K_.1); clear K_ a1; have a1 := aq; have K_ := kb hb; replace Z := zA Z (K_.1); replace HBW := bS HBW hb; clear K_ aq hb ao al; replace a9 := z5 a2; replace aa := z5 a3; replace a8 := zf5 a0; replace ab := z5 a4; replace a6 := z5 a1
 obtain ⟨D⟩ := D
 rcases D with ⟨rfl, rfl, rfl, rfl, rfl⟩ | ⟨rfl, rfl, rfl, rfl, rfl⟩ | ⟨rfl, rfl, rfl, rfl, rfl⟩ | ⟨rfl, rfl, rfl, rfl, rfl, hz1⟩ | ⟨rfl, rfl, rfl, rfl, rfl, hz1, hz2⟩ | ⟨rfl, rfl, rfl, rfl, rfl, hz1, hz2⟩ | ⟨rfl, rfl, rfl, rfl, rfl, hq⟩ | ⟨rfl, rfl, rfl, rfl, rfl, hq⟩ | ⟨rfl, rfl, rfl⟩ | ⟨rfl, rfl, rfl, rfl⟩ | ⟨ho, rfl, rfl⟩ | ⟨ho, rfl, rfl, rfl⟩
 ·go_wp2_with (first | ((with_reducible refine gd 51 rfl ?_); refine gU ?_; refine float_event rfl rfl (by simp) rfl rfl ?_; intro r1 ad hf hb; have aw := Aside0.mk hf; clear hf; have K_ := kb hb; replace a2 := mvB a2 K_; replace a3 := mvB a3 K_; replace a0 := mvB a0 K_; replace a4 := mvB a4 K_; replace a1 := mvB a1 K_; replace Z := zA Z (K_.1); replace HBW := bS HBW hb; clear hb K_; replace a9 := z5 a2; replace aa := z5 a3; replace a8 := zf5 a0; replace ab := z5 a4; replace a6 := z5 a1) | ((with_reducible refine gd 56 rfl ?_); refine gU ?_; refine float_event rfl rfl (by simp) rfl rfl ?_; intro r2 ay hf hb; have ax := Aside0.mk hf; clear hf; have K_ := kb hb; replace a2 := mvB a2 K_; replace a3 := mvB a3 K_; replace a0 := mvB a0 K_; replace a4 := mvB a4 K_; replace a1 := mvB a1 K_; replace Z := zA Z (K_.1); replace HBW := bS HBW hb; clear hb K_; replace a9 := z5 a2; replace aa := z5 a3; replace a8 := zf5 a0; replace ab := z5 a4; replace a6 := z5 a1) | ((with_reducible refine gd 57 rfl ?_); refine gU ?_; refine gc (some 57) Try.func106 #[.float .f64 r1, .float .f64 r2] (ref_of.calls _ _ _) ?_; rintro e aA ⟨rfl, hb⟩; refine ⟨_, rfl, ?_⟩; have K_ := kb hb; replace a2 := mvB a2 K_; replace a3 := mvB a3 K_; replace a0 := mvB a0 K_; replace a4 := mvB a4 K_; replace a1 := mvB a1 K_; replace Z := zA Z (K_.1); replace HBW := bS HBW hb; have FA := Aside0.mk (And.intro aw.out ax.out); clear hb K_; replace a9 := z5 a2; replace aa := z5 a3; replace a8 := zf5 a0; replace ab := z5 a4; replace a6 := z5 a1))
  refine bodyPost_ret (results_ctt3 rfl _ _ b6 58 #[.bool true, .bool false, .slice none 0 0, .float .f64 r1, .float .f64 r2] (0, 0) _ rfl (bp a0) Try.underlying58 rfl (by kernel_rfl)) rfl ?_; exact RPairsE.mk true r1 r2 false 0 rfl (by simp [RPairsR, FA.out]) (bel5 HBW.out (leZ Z))
 ·go_wp2_with (first | ((with_reducible refine gd 64 rfl ?_); refine gU ?_; refine float_event rfl rfl (by simp) rfl rfl ?_; intro r1 ad hf hb; have aw := Aside0.mk hf; clear hf; have K_ := kb hb; replace a2 := mvB a2 K_; replace a3 := mvB a3 K_; replace a0 := mvB a0 K_; replace a4 := mvB a4 K_; replace a1 := mvB a1 K_; replace Z := zA Z (K_.1); replace HBW := bS HBW hb; clear hb K_; replace a9 := z5 a2; replace aa := z5 a3; replace a8 := zf5 a0; replace ab := z5 a4; replace a6 := z5 a1) | ((with_reducible refine gd 69 rfl ?_); refine gU ?_; refine float_event rfl rfl (by simp) rfl rfl ?_; intro r2 ay hf hb; have ax := Aside0.mk hf; clear hf; have K_ := kb hb; replace a2 := mvB a2 K_; replace a3 := mvB a3 K_; replace a0 := mvB a0 K_; replace a4 := mvB a4 K_; replace a1 := mvB a1 K_; replace Z := zA Z (K_.1); replace HBW := bS HBW hb; clear hb K_; replace a9 := z5 a2; replace aa := z5 a3; replace a8 := zf5 a0; replace ab := z5 a4; replace a6 := z5 a1) | ((with_reducible refine gd 70 rfl ?_); refine gU ?_; refine gc (some 70) Try.func106 #[.float .f64 r1, .float .f64 r2] (ref_of.calls _ _ _) ?_; rintro e aA ⟨rfl, hb⟩; refine ⟨_, rfl, ?_⟩; have K_ := kb hb; replace a2 := mvB a2 K_; replace a3 := mvB a3 K_; replace a0 := mvB a0 K_; replace a4 := mvB a4 K_; replace a1 := mvB a1 K_; replace Z := zA Z (K_.1); replace HBW := bS HBW hb; have FA := Aside0.mk (And.intro aw.out ax.out); clear hb K_; replace a9 := z5 a2; replace aa := z5 a3; replace a8 := zf5 a0; replace ab := z5 a4; replace a6 := z5 a1))
  refine bodyPost_ret (results_ctt3 rfl _ _ b6 58 #[.bool true, .bool false, .slice none 0 0, .float .f64 r1, .float .f64 r2] (0, 0) _ rfl (bp a0) Try.underlying58 rfl (by kernel_rfl)) rfl ?_; exact RPairsE.mk true r1 r2 false 0 rfl (by simp [RPairsR, FA.out]) (bel5 HBW.out (leZ Z))
 ·go_wp2_with (first | ((with_reducible refine gd 75 rfl ?_); refine gU ?_; refine gc (some 75) Try.func122 #[.agg #[.bool true, .bool xt, .slice xA xn xc, .float .f64 xr, .float .f64 xi], .agg #[.bool true, .bool yt, .slice yA yn yc, .float .f64 yr, .float .f64 yi]] (ref_times.calls xt xA xn xc xr xi yt yA yn yc yr yi _) ?_; rintro e ad ⟨r1, r2, rfl, hf, hb⟩; refine ⟨_, rfl, ?_⟩; have K_ := kb hb; replace a2 := mvB a2 K_; replace a3 := mvB a3 K_; replace a0 := mvB a0 K_; replace a4 := mvB a4 K_; replace a1 := mvB a1 K_; replace Z := zA Z (K_.1); replace HBW := bS HBW hb; have FA := Aside0.mk hf; clear hf; clear hb K_; replace a9 := z5 a2; replace aa := z5 a3; replace a8 := zf5 a0; replace ab := z5 a4; replace a6 := z5 a1))
  refine bodyPost_ret (results_ctt3 rfl _ _ b6 58 #[.bool true, .bool false, .slice none 0 0, .float .f64 r1, .float .f64 r2] (0, 0) _ rfl (bp a0) Try.underlying58 rfl (by kernel_rfl)) rfl ?_; exact RPairsE.mk true r1 r2 false 0 rfl (by simp [RPairsR, FA.out]) (bel5 HBW.out (leZ Z))
 ·have an := Aside0.mk hz1
  go_wp2_with (first | ((with_reducible refine gd 89 rfl ?_); refine gU ?_; refine gc (some 89) Try.func123 #[.agg #[.bool true, .bool xt, .slice xA xn xc, .float .f64 xr, .float .f64 xi], .agg #[.bool true, .bool yt, .slice yA yn yc, .float .f64 yr, .float .f64 yi]] (ref_over.calls xt xA xn xc xr xi yt yA yn yc yr yi _) ?_; rintro e ad ⟨r1, r2, rfl, hf, hb⟩; refine ⟨_, rfl, ?_⟩; have K_ := kb hb; replace a2 := mvB a2 K_; replace a3 := mvB a3 K_; replace a0 := mvB a0 K_; replace a4 := mvB a4 K_; replace a1 := mvB a1 K_; replace Z := zA Z (K_.1); replace HBW := bS HBW hb; have FA := Aside0.mk hf; clear hf; clear hb K_; replace a9 := z5 a2; replace aa := z5 a3; replace a8 := zf5 a0; replace ab := z5 a4; replace a6 := z5 a1))
  refine bodyPost_ret (results_ctt3 rfl _ _ b6 58 #[.bool true, .bool false, .slice none 0 0, .float .f64 r1, .float .f64 r2] (0, 0) _ rfl (bp a0) Try.underlying58 rfl (by kernel_rfl)) rfl ?_; exact RPairsE.mk true r1 r2 false 0 rfl (by simp [RPairsR, ceqB, FA.out, an.out]) (bel5 HBW.out (leZ Z))
 ·have an := Aside0.mk hz1
  have az := Aside0.mk hz2
  go_wp2_with (first | ((with_reducible refine gd 89 rfl ?_); refine gU ?_; refine gc (some 89) Try.func123 #[.agg #[.bool true, .bool xt, .slice xA xn xc, .float .f64 xr, .float .f64 xi], .agg #[.bool true, .bool yt, .slice yA yn yc, .float .f64 yr, .float .f64 yi]] (ref_over.calls xt xA xn xc xr xi yt yA yn yc yr yi _) ?_; rintro e ad ⟨r1, r2, rfl, hf, hb⟩; refine ⟨_, rfl, ?_⟩; have K_ := kb hb; replace a2 := mvB a2 K_; replace a3 := mvB a3 K_; replace a0 := mvB a0 K_; replace a4 := mvB a4 K_; replace a1 := mvB a1 K_; replace Z := zA Z (K_.1); replace HBW := bS HBW hb; have FA := Aside0.mk hf; clear hf; clear hb K_; replace a9 := z5 a2; replace aa := z5 a3; replace a8 := zf5 a0; replace ab := z5 a4; replace a6 := z5 a1))
  refine bodyPost_ret (results_ctt3 rfl _ _ b6 58 #[.bool true, .bool false, .slice none 0 0, .float .f64 r1, .float .f64 r2] (0, 0) _ rfl (bp a0) Try.underlying58 rfl (by kernel_rfl)) rfl ?_; exact RPairsE.mk true r1 r2 false 0 rfl (by simp [RPairsR, ceqB, FA.out, an.out, az.out]) (bel5 HBW.out (leZ Z))
 ·have an := Aside0.mk hz1
  have az := Aside0.mk hz2
  go_wp2
  refine bodyPost_ret (results_ctt3 rfl _ _ b6 58 #[.bool false, .bool false, .slice none 0 0, .float .f64 0, .float .f64 0] (0, 0) _ rfl (bp a0) Try.underlying58 rfl (by kernel_rfl)) rfl ?_; exact RPairsE.mk false 0 0 _ _ rfl (by simp [RPairsR, ceqB, an.out, az.out]) (bel5 HBW.out (leZ Z))
 ·have HQ := Aside0.mk hq
  go_wp2
  refine st 16 (fun w' => w'.cell? ⟨b9, 3, none⟩ = some (.float .f64 xr) ∧ w'.cell? ⟨b9, 4, none⟩ = some (.float .f64 xi) ∧ w'.cell? ⟨ae, 3, none⟩ = some (.float .f64 yr) ∧ w'.cell? ⟨ae, 4, none⟩ = some (.float .f64 yi)) [] ⟨bc a4 3, bc a4 4, bc a1 3, bc a1 4⟩ (fun hHeld => ?_)
  refine with_tabW ref_pairs.tab20 ref_pairs.bits20 (fun a5 ag => ?_)
  replace a0 := Aside0.mk (blk_drew a0.out); replace HBW := Aside0.mk (below_drew1 HBW.out); clear a4 a1 a2 a3 a9 aa ab a6 a8; generalize aB.drew = wd at a0 HBW hHeld ⊢; have a8 := zf5 a0
  refine pu a5 0 (some 90) ?_
  refine pu a5 1 (some 91) ?_
  refine tk a5 ag 2 (some 92) hHeld ?_
  refine pu a5 3 (some 93) ?_
  refine tk a5 ag 4 (some 94) hHeld ?_
  refine pu a5 5 (some 95) (v := .bool false) ?_ (hy := fun w' => by first | (go_simp; done) | (go_simp; simp [HQ.out]))
  refine pu a5 6 (some 96) ?_
  refine pn a5 7 (some 97) ?_
  refine pn a5 8 (some 98) ?_
  refine pn a5 9 (some 99) ?_
  refine pn a5 10 (some 100) ?_
  refine pn a5 11 (some 101) ?_
  refine pu a5 12 (some 102) ?_
  refine on a5 13 none fun K hK => ?_
  refine skip_ (w1 := ?_) (by rfl) rfl ?_ ?_
  rotate_left
  ·go_simp
   rfl
  refine hK.out _ _ ⟨far5 ac hHeld.1, far5 ac hHeld.2.1, far5 a7 hHeld.2.2.1, far5 a7 hHeld.2.2.2⟩ (fun hHeld => ?_)
  clear hK K
  refine pu a5 14 (some 7) ?_
  refine pu a5 15 (some 8) ?_
  refine dn a5 ?_
  go_wp2
  refine bodyPost_ret (results_ctt3 rfl _ _ b6 58 #[.bool false, .bool false, .slice none 0 0, .float .f64 0, .float .f64 0] (0, 0) _ rfl (bp a0) Try.underlying58 rfl (by kernel_rfl)) rfl ?_; exact RPairsE.mk _ _ _ _ _ rfl (by simp [RPairsR, ceqB, HQ.out]) (bel5 HBW.out (leZ Z))
 ·have HQ := Aside0.mk hq
  go_wp2
  refine st 16 (fun w' => w'.cell? ⟨b9, 3, none⟩ = some (.float .f64 xr) ∧ w'.cell? ⟨b9, 4, none⟩ = some (.float .f64 xi) ∧ w'.cell? ⟨ae, 3, none⟩ = some (.float .f64 yr) ∧ w'.cell? ⟨ae, 4, none⟩ = some (.float .f64 yi)) [] ⟨bc a4 3, bc a4 4, bc a1 3, bc a1 4⟩ (fun hHeld => ?_)
  refine with_tabW ref_pairs.tab20 ref_pairs.bits20 (fun a5 ag => ?_)
  replace a0 := Aside0.mk (blk_drew a0.out); replace HBW := Aside0.mk (below_drew1 HBW.out); clear a4 a1 a2 a3 a9 aa ab a6 a8; generalize aB.drew = wd at a0 HBW hHeld ⊢; have a8 := zf5 a0
  refine pu a5 0 (some 90) ?_
  refine pu a5 1 (some 91) ?_
  refine tk a5 ag 2 (some 92) hHeld ?_
  refine pu a5 3 (some 93) ?_
  refine tk a5 ag 4 (some 94) hHeld ?_
  refine pu a5 5 (some 95) (v := .bool true) ?_ (hy := fun w' => by first | (go_simp; done) | (go_simp; simp [HQ.out]))
  refine pu a5 6 (some 96) ?_
  refine pu a5 7 (some 97) ?_
  refine tk a5 ag 8 (some 98) hHeld ?_
  refine pu a5 9 (some 99) ?_
  refine tk a5 ag 10 (some 100) hHeld ?_
  refine pu a5 11 (some 101) ?_
  refine pu a5 12 (some 102) ?_
  refine on a5 13 none fun K hK => ?_
  refine skip_ (w1 := ?_) (by rfl) rfl ?_ ?_
  rotate_left
  ·go_simp
   rfl
  refine hK.out _ _ ⟨far5 ac hHeld.1, far5 ac hHeld.2.1, far5 a7 hHeld.2.2.1, far5 a7 hHeld.2.2.2⟩ (fun hHeld => ?_)
  clear hK K
  refine pu a5 14 (some 7) ?_
  refine pu a5 15 (some 8) ?_
  refine dn a5 ?_
  go_wp2
  refine bodyPost_ret (results_ctt3 rfl _ _ b6 58 #[.bool false, .bool false, .slice none 0 0, .float .f64 0, .float .f64 0] (0, 0) _ rfl (bp a0) Try.underlying58 rfl (by kernel_rfl)) rfl ?_; exact RPairsE.mk _ _ _ _ _ rfl (by simp [RPairsR, ceqB, HQ.out]) (bel5 HBW.out (leZ Z))
 ·go_wp2
  refine bodyPost_ret (results_ctt3 rfl _ _ b6 58 #[.bool false, .bool false, .slice none 0 0, .float .f64 0, .float .f64 0] (0, 0) _ rfl (bp a0) Try.underlying58 rfl (by kernel_rfl)) rfl ?_; exact RPairsE.mk false 0 0 _ _ rfl (by simp [RPairsR]) (bel5 HBW.out (leZ Z))
 ·go_wp2
  refine bodyPost_ret (results_ctt3 rfl _ _ b6 58 #[.bool false, .bool false, .slice none 0 0, .float .f64 0, .float .f64 0] (0, 0) _ rfl (bp a0) Try.underlying58 rfl (by kernel_rfl)) rfl ?_; exact RPairsE.mk false 0 0 _ _ rfl (by simp [RPairsR]) (bel5 HBW.out (leZ Z))
 ·have HO := Aside0.mk ho
  have h6 : (op == 6) = false := beq_eq_false_iff_ne.2 (by intro h_; subst h_; simp at ho)
  clear ho
  go_wp2
  refine bodyPost_ret (results_ctt3 rfl _ _ b6 58 #[.bool false, .bool false, .slice none 0 0, .float .f64 0, .float .f64 0] (0, 0) _ rfl (bp a0) Try.underlying58 rfl (by kernel_rfl)) rfl ?_; exact RPairsE.mk false 0 0 _ _ rfl (by simp [RPairsR, HO.out]) (bel5 HBW.out (leZ Z))
 ·have HO := Aside0.mk ho
  have h6 : (op == 6) = false := beq_eq_false_iff_ne.2 (by intro h_; subst h_; simp at ho)
  clear ho
  go_wp2
  refine bodyPost_ret (results_ctt3 rfl _ _ b6 58 #[.bool false, .bool false, .slice none 0 0, .float .f64 0, .float .f64 0] (0, 0) _ rfl (bp a0) Try.underlying58 rfl (by kernel_rfl)) rfl ?_; exact RPairsE.mk false 0 0 _ _ rfl (by simp [RPairsR, HO.out]) (bel5 HBW.out (leZ Z))
end Go.Proofs.Ytfjbhccapgnkiaa.P
