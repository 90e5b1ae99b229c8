/-
ScopeMore's walk.
-/
import Derived.Test.YtpodpmjlkbbkoaaMCLT
import Derived.Test.YtpodpmjlkbbkoaaMCZ2
set_option linter.all false
namespace Go.Proofs.Ytpodpmjlkbbkoaa.P
open Go.RowKit Go.Proofs.YtpodpmjlkbbkoaaW.PrintWords Go.Proofs.YtpodpmjlkbbkoaaW.PrintLast Go.Proofs.YtpodpmjlkbbkoaaW.PrintMore
attribute [local go_sem] max2_int min2_int max_two min_two max_three min_three max_four min_four
set_option maxHeartbeats 16000000
set_option maxRecDepth 100000
noncomputable section
mutual
def lapidarylaw09_ScopeMore.j0 : Nat → ByteArray → List ByteArray → ByteArray → List (S29) → Bool → Option (Bool)
 | 0, _, _, _, _, _ => none
 | k + 1, x0, x1, x2, x7, x30 => if x30 = true then ((lapidarylaw09_known.f k).bind fun t203 => (some t203)) else (lapidarylaw09_ScopeMore.l0 k x0 x1 x2 x7 0)
def lapidarylaw09_ScopeMore.l0 : Nat → ByteArray → List ByteArray → ByteArray → List (S29) → Int → Option (Bool)
 | 0, _, _, _, _, _ => none
 | k + 1, x0, x1, x2, x7, x11 => if x11 < (x7.length : Int) then (if 0 ≤ x11 then (if ((rd_T29 x7 x11).f1).toList = x2.toList then ((lapidarylaw09_known.f k).bind fun t205 => (some t205)) else (lapidarylaw09_ScopeMore.l0 k x0 x1 x2 x7 (wrap64 (x11 + 1)))) else (none)) else (if ([] : List ByteArray).length + x1.length < 8796093022208 then ((some (([] : List ByteArray) ++ x1 : List ByteArray)).bind fun y206 => (if y206.length < 8796093022208 then ((lapidarylaw09_resolved.f x0 false (y206 ++ [x2])).bind fun bt212 => (if bt212.2.2.2 = true then (if bt212.2.2.1 = 0 then ((lapidarylaw09_taken.f k x7).bind fun t218 => ((lapidarylaw09_taken.f k bt212.1).bind fun t221 => ((lapidaryref09_Same.f k t218 t221).bind fun t224 => (if t224 = true then ((lapidarylaw09_known.f k).bind fun t225 => (some t225)) else (some false))))) else (some false)) else (some false))) else (none))) else (none))
end
def lapidarylaw09_ScopeMore.f (k : Nat) (a0 : ByteArray) (l1 : List ByteArray) (a2 : ByteArray) : Option (Bool) := (lapidarylaw09_resolved.f a0 false l1).bind fun bt197 => (if bt197.2.2.2 = true then (lapidarylaw09_ScopeMore.j0 k a0 l1 a2 bt197.1 (bt197.2.2.1 != 0)) else (lapidarylaw09_ScopeMore.j0 k a0 l1 a2 bt197.1 true))
theorem lapidarylaw09_ScopeMore.calls (k : Nat) (a0 : ByteArray) (A1 : Option Addr) (c1 : Nat) (l1 : List ByteArray) (a2 : ByteArray) (r : Bool) (w : World) (hr1 : Kd.C Kd.string w A1 l1.length l1) (hc1 : l1.length ≤ c1) (h : lapidarylaw09_ScopeMore.f k a0 l1 a2 = some r) :
  Calls Try.prog 3 #[.string a0, .slice A1 l1.length c1, .string a2] w fun e w' => e = .returned (.bool r) ∧ Below w.heap.size w w' := by
 have E := Aside0.mk hr1
 have g0 := Aside0.mk hc1
 clear hr1 hc1
 have HB := Aside0.mk (Below.refl w.heap.size w)
 have H : ((lapidarylaw09_resolved.f a0 false l1).bind fun bt197 => (if bt197.2.2.2 = true then (lapidarylaw09_ScopeMore.j0 k a0 l1 a2 bt197.1 (bt197.2.2.1 != 0)) else (lapidarylaw09_ScopeMore.j0 k a0 l1 a2 bt197.1 true))) = some r := h
 clear h
 obtain ⟨⟨o, c2, b1, b2⟩, A4, H⟩ := bs H
 have b4 := Aside0.mk H
 clear H
 go_enter Try.func3, Try.ntmps3
 go_upto_region 2 with (first | ((with_reducible refine gate_callee (f := 6) rfl ?_); refine gL (some 20) Try.func6 #[.string a0, .bool false, .slice A1 l1.length c1] ?_; (with_reducible refine (lapidarylaw09_resolved.calls a0 false _ _ l1 o c2 b1 b2 _ ?side1 ?side2 A4.out).mono ?_); (case side1 => repeat (first | exact E.out | (with_reducible refine Kd.C_alloc ?_ _) | (with_reducible refine Kd.C_drewN ?_ _) | (with_reducible refine Kd.C_drew ?_))); (case side2 => exact g0.out); rintro e w6 ⟨b3, rfl, l, d⟩; refine ⟨_, rfl, ?_⟩; have F := rL HB l; replace HB := hB HB d; clear d l))
 (try simp only [Act.put, List.setIfInBounds_toArray, List.set_cons_zero, List.set_cons_succ])
 go_cut [30] (fun g1 wc => ∃ (kq : Nat) (G : Bool), g1 = .bool G ∧ Aside0 (lapidarylaw09_ScopeMore.j0 kq a0 l1 a2 o G = some r) ∧ Aside0 (kq ≤ k) ∧ Aside0 (Kd.R k29 29 wc w.heap.size (fun _ => True) b3 o) ∧ Aside0 (Below w.heap.size w wc))
 case first =>
  have H := b4.out
  clear b4
  by_cases c7 : b2 = true
  ·subst c7
   replace H := ip H
   have H' := Aside0.mk H
   clear H
   go_wp2
   go_meet
   case rel => exact ⟨_, ((b1 != 0)), sd, H', ⟨le_⟩, ⟨rb F⟩, ⟨bw⟩⟩
  ·replace c7 := Bool.eq_false_iff.mpr c7
   subst c7
   replace H := iq H
   have H' := Aside0.mk H
   clear H
   go_wp2
   go_meet
   case rel => exact ⟨_, (true), sd, H', ⟨le_⟩, ⟨rb F⟩, ⟨bw⟩⟩
 case rest =>
  clear b4
  try clear c1
  obtain ⟨kq, G, rfl, HA, c3, a, HB⟩ := hcut
  cases kq with
  | zero => exact absurd HA.out (by simp [lapidarylaw09_ScopeMore.j0])
  | succ kj4 =>
   have H := HA.out
   clear HA
   simp only [lapidarylaw09_ScopeMore.j0] at H
   by_cases c8 : G = true
   ·subst c8
    replace H := ip H
    obtain ⟨c4, A9, H⟩ := bs H
    obtain rfl := Option.some.inj H
    go_wp2_with (first | ((with_reducible refine ga 7 rfl ?_); refine gc (some 31) Try.func7 #[] (lapidarylaw09_known.calls kj4  c4 _ A9.out) ?_; rintro e j1 ⟨rfl, d⟩; refine ⟨_, rfl, ?_⟩; replace a := rB a d; replace HB := hB HB d; clear d))
    go_ret
    exact ⟨er, bw⟩
   ·replace c8 := Bool.eq_false_iff.mpr c8
    subst c8
    replace H := iq H
    have H' := Aside0.mk H
    clear H
    go_wp2
    go_loopg [11] kj4 (fun kq g2 w' => ∃ (i : Int), g2 = .int .i64 i ∧ Aside0 (lapidarylaw09_ScopeMore.l0 kq a0 l1 a2 o i = some r) ∧ Aside0 (kq ≤ kj4) ∧ Aside0 (Kd.R k29 29 w' w.heap.size (fun _ => True) b3 o) ∧ Aside0 (Below w.heap.size w w'))
    case atStart => exact ⟨(0), sd, H', ⟨Nat.le_refl _⟩, ⟨rb a⟩, ⟨bw⟩⟩
    case round =>
     clear H'
     try clear c1
     try clear c8
     obtain ⟨i, rfl, HA, c5, a, HB⟩ := hrel
     cases gk with
     | zero => exact absurd HA.out (by simp [lapidarylaw09_ScopeMore.l0])
     | succ k2 =>
      have H := HA.out
      clear HA
      simp only [lapidarylaw09_ScopeMore.l0] at H
      by_cases X : i < (o.length : Int)
      ·rw [if_pos X] at H
       have b5 : decide (i < (o.length : Int)) = true := decide_eq_true X
       clear X
       by_cases a5 : 0 ≤ i
       ·rw [if_pos a5] at H
        have g3 : decide (0 ≤ i) = true := decide_eq_true a5
        clear a5
        by_cases V : ((rd_T29 o i).f1).toList = a2.toList
        ·rw [if_pos V] at H
         have b6 : (((rd_T29 o i).f1).toList == a2.toList) = true := beq_iff_eq.mpr V
         have b7 : (((rd_T29 o i).f1).toList != a2.toList) = false := bne_eq_false_iff_eq.mpr V
         clear V
         obtain ⟨c6, g4, H⟩ := bs H
         obtain rfl := Option.some.inj H
         obtain ⟨g6, g7, c9⟩ := sl a; cases c9
         have x : 0 ≤ (i : Int) := of_decide_eq_true asm
         have y : i < (o.length : Int) := of_decide_eq_true asm
         obtain ⟨b8, K, L, P, Q, S, T, a1⟩ := at_T29 (Kd.R_reads' a.out).2.2 i x y
         cases K
         replace x := eq_true x
         replace y := eq_true y
         go_wp2_with (first | ((with_reducible refine ga 7 rfl ?_); refine gc (some 45) Try.func7 #[] (lapidarylaw09_known.calls k2  c6 _ g4.out) ?_; rintro e j2 ⟨rfl, d⟩; refine ⟨_, rfl, ?_⟩; replace a := rB a d; replace HB := hB HB d; clear d))
         go_ret
         exact ⟨er, bw⟩
        ·rw [if_neg V] at H
         have b6 : (((rd_T29 o i).f1).toList == a2.toList) = false := beq_eq_false_iff_ne.mpr V
         have b7 : (((rd_T29 o i).f1).toList != a2.toList) = true := bne_iff_ne.mpr V
         have H' := Aside0.mk H
         clear H
         obtain ⟨g8, g9, d0⟩ := sl a; cases d0
         have x : 0 ≤ (i : Int) := of_decide_eq_true asm
         have y : i < (o.length : Int) := of_decide_eq_true asm
         obtain ⟨b8, K, L, P, Q, S, T, a1⟩ := at_T29 (Kd.R_reads' a.out).2.2 i x y
         cases K
         replace x := eq_true x
         replace y := eq_true y
         go_wp2
         go_roundg k2
         case measure => have := c3.out; have := c5.out; omega
         case rel => exact ⟨(wrap64 (i + 1)), sd, H', ⟨by have := c3.out; have := c5.out; omega⟩, ⟨rb a⟩, ⟨bw⟩⟩
       ·rw [if_neg a5] at H
        exact absurd H (by simp)
      ·rw [if_neg X] at H
       have b5 : decide (i < (o.length : Int)) = false := decide_eq_false X
       clear X
       by_cases a6 : ([] : List ByteArray).length + l1.length < 8796093022208
       ·rw [if_pos a6] at H
        have I := Aside0.mk a6
        clear a6
        obtain ⟨t, z⟩ : ∃ y_ : List ByteArray, y_ = (([] : List ByteArray) ++ l1) := ⟨_, rfl⟩
        replace H : (if t.length < 8796093022208 then ((lapidarylaw09_resolved.f a0 false (t ++ [a2])).bind fun bt212 => (if bt212.2.2.2 = true then (if bt212.2.2.1 = 0 then ((lapidarylaw09_taken.f k2 o).bind fun u => ((lapidarylaw09_taken.f k2 bt212.1).bind fun v => ((lapidaryref09_Same.f k2 u v).bind fun O => (if O = true then ((lapidarylaw09_known.f k2).bind fun U => (some U)) else (some false))))) else (some false)) else (some false))) else (none)) = some r := by first | (rw [z]; with_reducible exact H) | (have H2_ := (Option.bind_some _ _).symm.trans H; rw [z]; with_reducible exact H2_) | (have H2_ := (Option.bind_some _ _).symm.trans H; with_reducible exact H2_) | with_reducible exact H | (rw [z]; exact H) | exact H
        have J := Aside0.mk z
        clear z
        by_cases a7 : t.length < 8796093022208
        ·rw [if_pos a7] at H
         have M := Aside0.mk a7
         clear a7
         obtain ⟨q, A⟩ : ∃ y_ : List ByteArray, y_ = (t ++ [a2]) := ⟨_, rfl⟩
         replace H : ((lapidarylaw09_resolved.f a0 false q).bind fun bt212 => (if bt212.2.2.2 = true then (if bt212.2.2.1 = 0 then ((lapidarylaw09_taken.f k2 o).bind fun u => ((lapidarylaw09_taken.f k2 bt212.1).bind fun v => ((lapidaryref09_Same.f k2 u v).bind fun O => (if O = true then ((lapidarylaw09_known.f k2).bind fun U => (some U)) else (some false))))) else (some false)) else (some false))) = some r := by first | (rw [A]; with_reducible exact H) | (have H2_ := (Option.bind_some _ _).symm.trans H; rw [A]; with_reducible exact H2_) | (have H2_ := (Option.bind_some _ _).symm.trans H; with_reducible exact H2_) | with_reducible exact H | (rw [A]; exact H) | exact H
         have N := Aside0.mk A
         clear A
         obtain ⟨⟨D, Y, s, d1⟩, a8, H⟩ := bs H
         by_cases a9 : d1 = true
         ·subst a9
          replace H := ip H
          by_cases W : s = 0
          ·rw [if_pos W] at H
           have b9 : (s == 0) = true := beq_iff_eq.mpr W
           have c0 : (s != 0) = false := bne_eq_false_iff_eq.mpr W
           clear W
           obtain ⟨u, d2, H⟩ := bs H
           obtain ⟨v, d3, H⟩ := bs H
           obtain ⟨O, d4, H⟩ := bs H
           by_cases b0 : O = true
           ·subst b0
            replace H := ip H
            obtain ⟨U, g5, H⟩ := bs H
            obtain rfl := Option.some.inj H
            obtain ⟨h0, h1, d5⟩ := sl a; cases d5
            go_wp2_with (first | ((with_reducible refine gate_builtin (b := .append) (xs := #[.tmp 46, .tmp 47]) rfl ?_); at_builtin; refine Kd.R_append_rows Kd.string (w0 := w) w.heap.size rfl (.tmp 46) (.tmp 47) 22 9 (.string ⟨#[]⟩) 16 rfl Try.underlying22 info9 rfl (by decide) (by omega) (.slice none 0 0) ([] : List ByteArray) l1 _ _ _ (fun _ => True) (fun _ => False) rfl rfl ?aO ?aR (fun _ _ h => h) (fun _ h => h.elim) ?aF ?aB ?aS ?aL ?_; (case aR => exact cb E HB); (case aB => exact bw); (case aF => exact (fun _ _ => trivial)); (case aO => exact ((Kd.R_nil _ _ _ _ (fun _ => True)))); (case aS => exact (sz HB)); (case aL => have := I.out; omega); intro B j3 ho d hg hat; rw [← J.out] at ho; have m := Aside0.mk ho; replace a := Aside0.mk (Kd.R_grown (rb a) hg (fun _ _ => by simp [Value.ownBlock])); replace HB := Aside0.mk d; clear ho d hg hat) | ((with_reducible refine gate_builtin (b := .append) (xs := #[.tmp 49, .tmp 51]) rfl ?_); at_builtin; refine Kd.R_append Kd.string (w0 := w) w.heap.size rfl (.tmp 49) (.tmp 51) 22 9 (.string ⟨#[]⟩) 16 rfl Try.underlying22 info9 rfl (by decide) (by omega) B t a2 [.string a2] (fun _ => True) (fun _ => False) rfl rfl ?aP (fun _ hk => hk.elim) ?aF ?aO ?aB ?aS ?aL ?_; (case aP => exact rfl); (case aB => exact bw); (case aF => exact (fun _ _ => trivial)); (case aO => exact (rb m)); (case aS => exact (sz HB)); (case aL => have := M.out; omega); intro a3 j4 ho d hg hat; rw [← N.out] at ho; have c := Aside0.mk ho; replace a := Aside0.mk (Kd.R_over' (rb a) (Kd.R_typed (rb m)) (by decide) hg); replace HB := Aside0.mk d; clear m; clear ho d hg hat; obtain ⟨d6, d7, d8⟩ := sl c; cases d8) | ((with_reducible refine ga 6 rfl ?_); refine gc (some 56) Try.func6 #[.string a0, .bool false, .slice d6 q.length d7] (lapidarylaw09_resolved.calls a0 false _ _ q D Y s true _ (cr c) (rl c) a8.out) ?_; rintro e j5 ⟨a4, rfl, l, d⟩; refine ⟨_, rfl, ?_⟩; have j := rL HB (rn l a); replace a := rE a l d; replace c := rB c d; replace HB := hB HB d; clear d l) | (go_at_call 9; (with_reducible refine (lapidarylaw09_taken.calls k2 _ _ o u _ ?side1 ?side2 d2.out).mono ?_); (case side1 => exact cr a); (case side2 => exact rl a); rintro e j6 ⟨d9, rfl, l, d⟩; have n := rL HB l; replace a := rB a d; replace c := rB c d; replace j := rB j d; replace HB := hB HB d; clear d l; obtain ⟨h2, h3, e0⟩ := sl j; cases e0) | (go_at_call 9; (with_reducible refine (lapidarylaw09_taken.calls k2 _ _ D v _ ?side1 ?side2 d3.out).mono ?_); (case side1 => exact cr j); (case side2 => exact rl j); rintro e j7 ⟨e1, rfl, l, d⟩; have p := rL HB (rn l n); replace a := rB a d; replace c := rB c d; replace j := rB j d; replace n := rE n l d; replace HB := hB HB d; clear d l; obtain ⟨h4, h5, e2⟩ := sl n; cases e2; obtain ⟨h6, h7, e3⟩ := sl p; cases e3) | (go_at_call 8; (with_reducible refine (lapidaryref09_Same.calls k2 _ _ u _ _ v true _ ?side1 ?side2 ?side3 ?side4 d4.out).mono ?_); (case side1 => exact cr n); (case side2 => exact rl n); (case side3 => exact cr p); (case side4 => exact rl p); rintro e w' ⟨rfl, ⟨nd, rfl⟩⟩) | (go_at_call 7; (with_reducible refine (lapidarylaw09_known.calls k2  U _ g5.out).mono ?_); rintro e j8 ⟨rfl, d⟩; replace a := rB a d; replace c := rB c d; replace j := rB j d; replace n := rB n d; replace p := rB p d; replace HB := hB HB d; clear d))
            go_ret
            exact ⟨er, bw⟩
           ·replace b0 := Bool.eq_false_iff.mpr b0
            subst b0
            replace H := iq H
            obtain rfl := Option.some.inj H
            obtain ⟨h8, h9, e4⟩ := sl a; cases e4
            go_wp2_with (first | ((with_reducible refine gate_builtin (b := .append) (xs := #[.tmp 46, .tmp 47]) rfl ?_); at_builtin; refine Kd.R_append_rows Kd.string (w0 := w) w.heap.size rfl (.tmp 46) (.tmp 47) 22 9 (.string ⟨#[]⟩) 16 rfl Try.underlying22 info9 rfl (by decide) (by omega) (.slice none 0 0) ([] : List ByteArray) l1 _ _ _ (fun _ => True) (fun _ => False) rfl rfl ?aO ?aR (fun _ _ h => h) (fun _ h => h.elim) ?aF ?aB ?aS ?aL ?_; (case aR => exact cb E HB); (case aB => exact bw); (case aF => exact (fun _ _ => trivial)); (case aO => exact ((Kd.R_nil _ _ _ _ (fun _ => True)))); (case aS => exact (sz HB)); (case aL => have := I.out; omega); intro B j9 ho d hg hat; rw [← J.out] at ho; have m := Aside0.mk ho; replace a := Aside0.mk (Kd.R_grown (rb a) hg (fun _ _ => by simp [Value.ownBlock])); replace HB := Aside0.mk d; clear ho d hg hat) | ((with_reducible refine gate_builtin (b := .append) (xs := #[.tmp 49, .tmp 51]) rfl ?_); at_builtin; refine Kd.R_append Kd.string (w0 := w) w.heap.size rfl (.tmp 49) (.tmp 51) 22 9 (.string ⟨#[]⟩) 16 rfl Try.underlying22 info9 rfl (by decide) (by omega) B t a2 [.string a2] (fun _ => True) (fun _ => False) rfl rfl ?aP (fun _ hk => hk.elim) ?aF ?aO ?aB ?aS ?aL ?_; (case aP => exact rfl); (case aB => exact bw); (case aF => exact (fun _ _ => trivial)); (case aO => exact (rb m)); (case aS => exact (sz HB)); (case aL => have := M.out; omega); intro a3 k0 ho d hg hat; rw [← N.out] at ho; have c := Aside0.mk ho; replace a := Aside0.mk (Kd.R_over' (rb a) (Kd.R_typed (rb m)) (by decide) hg); replace HB := Aside0.mk d; clear m; clear ho d hg hat; obtain ⟨e5, e6, e7⟩ := sl c; cases e7) | ((with_reducible refine ga 6 rfl ?_); refine gc (some 56) Try.func6 #[.string a0, .bool false, .slice e5 q.length e6] (lapidarylaw09_resolved.calls a0 false _ _ q D Y s true _ (cr c) (rl c) a8.out) ?_; rintro e k1 ⟨a4, rfl, l, d⟩; refine ⟨_, rfl, ?_⟩; have j := rL HB (rn l a); replace a := rE a l d; replace c := rB c d; replace HB := hB HB d; clear d l) | (go_at_call 9; (with_reducible refine (lapidarylaw09_taken.calls k2 _ _ o u _ ?side1 ?side2 d2.out).mono ?_); (case side1 => exact cr a); (case side2 => exact rl a); rintro e k3 ⟨d9, rfl, l, d⟩; have n := rL HB l; replace a := rB a d; replace c := rB c d; replace j := rB j d; replace HB := hB HB d; clear d l; obtain ⟨i0, i1, e8⟩ := sl j; cases e8) | (go_at_call 9; (with_reducible refine (lapidarylaw09_taken.calls k2 _ _ D v _ ?side1 ?side2 d3.out).mono ?_); (case side1 => exact cr j); (case side2 => exact rl j); rintro e k4 ⟨e1, rfl, l, d⟩; have p := rL HB (rn l n); replace a := rB a d; replace c := rB c d; replace j := rB j d; replace n := rE n l d; replace HB := hB HB d; clear d l; obtain ⟨i2, i3, e9⟩ := sl n; cases e9; obtain ⟨i4, i5, f0⟩ := sl p; cases f0) | (go_at_call 8; (with_reducible refine (lapidaryref09_Same.calls k2 _ _ u _ _ v false _ ?side1 ?side2 ?side3 ?side4 d4.out).mono ?_); (case side1 => exact cr n); (case side2 => exact rl n); (case side3 => exact cr p); (case side4 => exact rl p); rintro e w' ⟨rfl, ⟨nd, rfl⟩⟩))
            go_ret
            exact ⟨er, bw⟩
          ·rw [if_neg W] at H
           have b9 : (s == 0) = false := beq_eq_false_iff_ne.mpr W
           have c0 : (s != 0) = true := bne_iff_ne.mpr W
           obtain rfl := Option.some.inj H
           obtain ⟨i6, i7, f2⟩ := sl a; cases f2
           go_wp2_with (first | ((with_reducible refine gate_builtin (b := .append) (xs := #[.tmp 46, .tmp 47]) rfl ?_); at_builtin; refine Kd.R_append_rows Kd.string (w0 := w) w.heap.size rfl (.tmp 46) (.tmp 47) 22 9 (.string ⟨#[]⟩) 16 rfl Try.underlying22 info9 rfl (by decide) (by omega) (.slice none 0 0) ([] : List ByteArray) l1 _ _ _ (fun _ => True) (fun _ => False) rfl rfl ?aO ?aR (fun _ _ h => h) (fun _ h => h.elim) ?aF ?aB ?aS ?aL ?_; (case aR => exact cb E HB); (case aB => exact bw); (case aF => exact (fun _ _ => trivial)); (case aO => exact ((Kd.R_nil _ _ _ _ (fun _ => True)))); (case aS => exact (sz HB)); (case aL => have := I.out; omega); intro B k5 ho d hg hat; rw [← J.out] at ho; have m := Aside0.mk ho; replace a := Aside0.mk (Kd.R_grown (rb a) hg (fun _ _ => by simp [Value.ownBlock])); replace HB := Aside0.mk d; clear ho d hg hat) | ((with_reducible refine gate_builtin (b := .append) (xs := #[.tmp 49, .tmp 51]) rfl ?_); at_builtin; refine Kd.R_append Kd.string (w0 := w) w.heap.size rfl (.tmp 49) (.tmp 51) 22 9 (.string ⟨#[]⟩) 16 rfl Try.underlying22 info9 rfl (by decide) (by omega) B t a2 [.string a2] (fun _ => True) (fun _ => False) rfl rfl ?aP (fun _ hk => hk.elim) ?aF ?aO ?aB ?aS ?aL ?_; (case aP => exact rfl); (case aB => exact bw); (case aF => exact (fun _ _ => trivial)); (case aO => exact (rb m)); (case aS => exact (sz HB)); (case aL => have := M.out; omega); intro a3 k6 ho d hg hat; rw [← N.out] at ho; have c := Aside0.mk ho; replace a := Aside0.mk (Kd.R_over' (rb a) (Kd.R_typed (rb m)) (by decide) hg); replace HB := Aside0.mk d; clear m; clear ho d hg hat; obtain ⟨f3, f4, f5⟩ := sl c; cases f5) | ((with_reducible refine ga 6 rfl ?_); refine gc (some 56) Try.func6 #[.string a0, .bool false, .slice f3 q.length f4] (lapidarylaw09_resolved.calls a0 false _ _ q D Y s true _ (cr c) (rl c) a8.out) ?_; rintro e k7 ⟨a4, rfl, l, d⟩; refine ⟨_, rfl, ?_⟩; have j := rL HB (rn l a); replace a := rE a l d; replace c := rB c d; replace HB := hB HB d; clear d l))
           go_ret
           exact ⟨er, bw⟩
         ·replace a9 := Bool.eq_false_iff.mpr a9
          subst a9
          replace H := iq H
          obtain rfl := Option.some.inj H
          obtain ⟨i8, i9, f6⟩ := sl a; cases f6
          go_wp2_with (first | ((with_reducible refine gate_builtin (b := .append) (xs := #[.tmp 46, .tmp 47]) rfl ?_); at_builtin; refine Kd.R_append_rows Kd.string (w0 := w) w.heap.size rfl (.tmp 46) (.tmp 47) 22 9 (.string ⟨#[]⟩) 16 rfl Try.underlying22 info9 rfl (by decide) (by omega) (.slice none 0 0) ([] : List ByteArray) l1 _ _ _ (fun _ => True) (fun _ => False) rfl rfl ?aO ?aR (fun _ _ h => h) (fun _ h => h.elim) ?aF ?aB ?aS ?aL ?_; (case aR => exact cb E HB); (case aB => exact bw); (case aF => exact (fun _ _ => trivial)); (case aO => exact ((Kd.R_nil _ _ _ _ (fun _ => True)))); (case aS => exact (sz HB)); (case aL => have := I.out; omega); intro B k8 ho d hg hat; rw [← J.out] at ho; have m := Aside0.mk ho; replace a := Aside0.mk (Kd.R_grown (rb a) hg (fun _ _ => by simp [Value.ownBlock])); replace HB := Aside0.mk d; clear ho d hg hat) | ((with_reducible refine gate_builtin (b := .append) (xs := #[.tmp 49, .tmp 51]) rfl ?_); at_builtin; refine Kd.R_append Kd.string (w0 := w) w.heap.size rfl (.tmp 49) (.tmp 51) 22 9 (.string ⟨#[]⟩) 16 rfl Try.underlying22 info9 rfl (by decide) (by omega) B t a2 [.string a2] (fun _ => True) (fun _ => False) rfl rfl ?aP (fun _ hk => hk.elim) ?aF ?aO ?aB ?aS ?aL ?_; (case aP => exact rfl); (case aB => exact bw); (case aF => exact (fun _ _ => trivial)); (case aO => exact (rb m)); (case aS => exact (sz HB)); (case aL => have := M.out; omega); intro a3 k9 ho d hg hat; rw [← N.out] at ho; have c := Aside0.mk ho; replace a := Aside0.mk (Kd.R_over' (rb a) (Kd.R_typed (rb m)) (by decide) hg); replace HB := Aside0.mk d; clear m; clear ho d hg hat; obtain ⟨f7, f8, f9⟩ := sl c; cases f9) | ((with_reducible refine ga 6 rfl ?_); refine gc (some 56) Try.func6 #[.string a0, .bool false, .slice f7 q.length f8] (lapidarylaw09_resolved.calls a0 false _ _ q D Y s false _ (cr c) (rl c) a8.out) ?_; rintro e l2 ⟨a4, rfl, l, d⟩; refine ⟨_, rfl, ?_⟩; have j := rL HB (rn l a); replace a := rE a l d; replace c := rB c d; replace HB := hB HB d; clear d l))
          go_ret
          exact ⟨er, bw⟩
        ·rw [if_neg a7] at H
         exact absurd H (by simp)
       ·rw [if_neg a6] at H
        exact absurd H (by simp)
end
end Go.Proofs.Ytpodpmjlkbbkoaa.P
