import Derived.Test.YtfjbhccapgnkiaaN24
import Derived.Test.YtfjbhccapgnkiaaU1
namespace Go.Proofs.Ytfjbhccapgnkiaa.P
open Go.RowKit Go.Proofs.YtfjbhccapgnkiaaW.PrintWords Go.Proofs.YtfjbhccapgnkiaaW.PrintLast Go.Proofs.YtfjbhccapgnkiaaW.PrintMore
attribute [local go_sem] max2_int min2_int max_two min_two max_three min_three max_four min_four
set_option linter.unusedVariables false
set_option linter.unusedSimpArgs false

/-! ### Eight bytes and a word -/
theorem be8_fold (n : Nat) (hn : n < 18446744073709551616) : ∀ k : Nat, k ≤ 8 → ((be8 n).take k).foldl (fun a x => a * 256 + x) 0 = ((n / 256 ^ (8 - k) : Nat) : Int)
  | 0, _ => by
    rw [List.take_zero, List.foldl_nil, Nat.div_eq_of_lt (by rw [show (256 : Nat) ^ (8 - 0) = 18446744073709551616 from by decide]; exact hn)]; rfl
  | k + 1, hk => by
    rw [be8_take n k (by omega), List.foldl_append, be8_fold n hn k (by omega), List.foldl_cons, List.foldl_nil]
    unfold be8k
    have e : 256 ^ (8 - k) = 256 ^ (7 - k) * 256 := by rw [← Nat.pow_succ]; congr 1; omega
    rw [e, ← Nat.div_div_eq_div_mul, show 8 - (k + 1) = 7 - k from by omega]
    generalize n / 256 ^ (7 - k) = m
    omega
theorem w8_be8 (n : Nat) (hn : n < 18446744073709551616) (l r : List Int) (o : Nat) (ho : l.length = o) : w8 (l ++ be8 n ++ r) o 8 = (n : Int) := by
  unfold w8
  rw [Nat.min_self, List.append_assoc, List.drop_append_of_le_length (by omega), List.drop_of_length_le (by omega), List.nil_append, List.take_append_of_le_length (by rw [be8_len]; omega), be8_fold n hn 8 (by omega)]
  simp
theorem be8_w8 (t : List Int) (hb : ∀ x ∈ t, 0 ≤ x ∧ x < 256) (o : Nat) (h : o + 8 ≤ t.length) : be8 (w8 t o 8).toNat = (t.drop o).take 8 := by
  have hs : ((t.drop o).take 8).length = 8 := by rw [List.length_take, List.length_drop]; omega
  have hbs : ∀ x ∈ (t.drop o).take 8, 0 ≤ x ∧ x < 256 := fun x hx => hb x (List.mem_of_mem_drop (List.mem_of_mem_take hx))
  unfold w8
  rw [Nat.min_self]
  generalize (t.drop o).take 8 = s at hs hbs
  match s, hs with
  | [b0, b1, b2, b3, b4, b5, b6, b7], _ =>
    have h0 := hbs b0 (by simp)
    have h1 := hbs b1 (by simp)
    have h2 := hbs b2 (by simp)
    have h3 := hbs b3 (by simp)
    have h4 := hbs b4 (by simp)
    have h5 := hbs b5 (by simp)
    have h6 := hbs b6 (by simp)
    have h7 := hbs b7 (by simp)
    clear hbs
    simp only [List.foldl_cons, List.foldl_nil]
    have e : (List.range 8) = [0, 1, 2, 3, 4, 5, 6, 7] := rfl
    unfold be8
    rw [e]
    simp only [List.map_cons, List.map_nil, be8k]
    have p7 : (256 : Nat) ^ (7 - 0) = 72057594037927936 := by decide
    have p6 : (256 : Nat) ^ (7 - 1) = 281474976710656 := by decide
    have p5 : (256 : Nat) ^ (7 - 2) = 1099511627776 := by decide
    have p4 : (256 : Nat) ^ (7 - 3) = 4294967296 := by decide
    have p3 : (256 : Nat) ^ (7 - 4) = 16777216 := by decide
    have p2 : (256 : Nat) ^ (7 - 5) = 65536 := by decide
    have p1 : (256 : Nat) ^ (7 - 6) = 256 := by decide
    have p0 : (256 : Nat) ^ (7 - 7) = 1 := by decide
    rw [p7, p6, p5, p4, p3, p2, p1, p0]
    generalize hN : (((((((0 * 256 + b0) * 256 + b1) * 256 + b2) * 256 + b3) * 256 + b4) * 256 + b5) * 256 + b6) * 256 + b7 = N
    have hN2 : N = b0 * 72057594037927936 + b1 * 281474976710656 + b2 * 1099511627776 + b3 * 4294967296 + b4 * 16777216 + b5 * 65536 + b6 * 256 + b7 := by omega
    clear hN
    congr 1
    · omega
    congr 1
    · omega
    congr 1
    · omega
    congr 1
    · omega
    congr 1
    · omega
    congr 1
    · omega
    congr 1
    · omega
    congr 1
    · omega
theorem w8_lt (t : List Int) (hb : ∀ x ∈ t, 0 ≤ x ∧ x < 256) (o : Nat) : (w8 t o 8).toNat < 18446744073709551616 := by
  have h := w8_range t hb o 8
  have e : ((256 ^ (min 8 8) : Nat) : Int) = 18446744073709551616 := by decide
  rw [e] at h
  omega
theorem bitsN_zero {x : Nat} (h : bitsN x = 0) : x = 0 := by
  unfold bitsN at h
  cases hn : nanB x
  · rw [hn] at h; simpa using h
  · rw [hn, if_pos rfl] at h; exact absurd h (by decide)

/-! ### NumberBytes: the law -/
theorem right58 {p s : Bool} {A : Option Addr} {c : Nat} {l : List Int} {x y : Nat} {w : World} (hr : Kd.C (Kd.int .u8) w A l.length l) (hc : l.length ≤ c) : Calls Try.prog 58 #[.agg #[.bool p, .bool s, .slice A l.length c, .complex .f64 x y]] w fun e w' => e = .returned (.bool (rightN p s l x y (okN s l))) ∧ Below w.heap.size w w' := by
  have ho := right_eq s l
  cases p
  · cases hk : okN s l
    · rw [hk] at ho
      exact number_Right.wn _ _ _ x y s w hr hc ho
    · rw [hk] at ho
      by_cases h1 : bitsN x = 0
      · by_cases h2 : bitsN y = 0
        · have h := number_Right.wy _ _ _ x y s h1 h2 w hr hc ho
          rw [show rightN false s l x y true = true from by unfold rightN; simp [h1, h2]]
          exact h
        · have h := number_Right.wb _ _ _ x y s h1 h2 w hr hc ho
          rw [show rightN false s l x y true = false from by unfold rightN; simp [h1, h2]]
          exact h
      · have h := number_Right.wa _ _ _ x y s h1 w hr hc ho
        rw [show rightN false s l x y true = false from by unfold rightN; simp [h1]]
        exact h
  · cases s
    · by_cases h0 : (l.length : Int) = 0
      · have h := number_Right.pf0 _ _ _ x y h0 w hr hc
        rw [show rightN true false l x y (okN false l) = true from by have h9 : l.length = 0 := (by omega); unfold rightN; rw [if_pos rfl, h9]; rfl]
        exact h
      · have h := number_Right.pf1 _ _ _ x y h0 w hr hc
        rw [show rightN true false l x y (okN false l) = false from by have h9 : l.length ≠ 0 := (by omega); unfold rightN; rw [if_pos rfl, decide_eq_false h9]; rfl]
        exact h
    · have h := number_Right.pt _ _ _ x y w hr hc
      exact h
/-- A number as bytes. -/
def putB (p s : Bool) (l : List Int) (x y : Nat) : List Int := if p = true then 2 :: (be8 x ++ be8 y) else (if s = true then 1 else 0) :: l
theorem putC_good {p s : Bool} {l : List Int} {x y : Nat} (h : rightN p s l x y (okN s l) = true) (hl : l.length ≤ 140737488351232) (hx : x < 18446744073709551616) (hy : y < 18446744073709551616) : PutC p s l x y (putB p s l x y) 0 := by
  intro W A c hr hc
  have hg : Gives58 W (.agg #[.bool p, .bool s, .slice A l.length c, .complex .f64 x y]) true := fun W' hb => by
    have h1 := right58 (p := p) (s := s) (x := x) (y := y) (Kd.C_below hr hb) hc
    rw [h] at h1
    exact h1
  cases p
  · cases s
    · exact number_Put.whole_false A c l x y W hg hr hc hl
    · exact number_Put.whole_true A c l x y W hg hr hc hl
  · exact number_Put.pair s A c l x y W hg hx hy
theorem putC_bad {p s : Bool} {l : List Int} {x y : Nat} (h : rightN p s l x y (okN s l) = false) : PutC p s l x y [] 1 := by
  intro W A c hr hc
  have hg : Gives58 W (.agg #[.bool p, .bool s, .slice A l.length c, .complex .f64 x y]) false := fun W' hb => by
    have h1 := right58 (p := p) (s := s) (x := x) (y := y) (Kd.C_below hr hb) hc
    rw [h] at h1
    exact h1
  refine (number_Put.bad p s A c l x y W hg).mono ?_
  rintro e w' ⟨rfl, hb⟩
  exact ⟨_, rfl, Kd.R_nil _ _ _ _ _, hb⟩
theorem rputC_good {p s : Bool} {l : List Int} {x y : Nat} (h : rightN p s l x y (okN s l) = true) (hl : l.length ≤ 140737488351232) (hx : x < 18446744073709551616) (hy : y < 18446744073709551616) : RPutC p s l x y (putB p s l x y) 0 := by
  intro W A c hr hc
  have hg : Gives96 W (.agg #[.bool p, .bool s, .slice A l.length c, .float .f64 x, .float .f64 y]) true := fun W' hb => by
    have h1 := ref_right (p := p) (s := s) (a := x) (b := y) (Kd.C_below hr hb) hc (rright_eq s l)
    rw [h] at h1
    exact h1
  cases p
  · cases s
    · exact ref_Put.whole_false A c l x y W hg hr hc hl
    · exact ref_Put.whole_true A c l x y W hg hr hc hl
  · exact ref_Put.pair s A c l x y W hg hx hy
theorem rputC_bad {p s : Bool} {l : List Int} {x y : Nat} (h : rightN p s l x y (okN s l) = false) : RPutC p s l x y [] 1 := by
  intro W A c hr hc
  have hg : Gives96 W (.agg #[.bool p, .bool s, .slice A l.length c, .float .f64 x, .float .f64 y]) false := fun W' hb => by
    have h1 := ref_right (p := p) (s := s) (a := x) (b := y) (Kd.C_below hr hb) hc (rright_eq s l)
    rw [h] at h1
    exact h1
  refine (ref_Put.bad p s A c l x y W hg).mono ?_
  rintro e w' ⟨rfl, hb⟩
  exact ⟨_, rfl, Kd.R_nil _ _ _ _ _, hb⟩
/-! #### Get -/
theorem getC_nil : GetC [] false false [] 0 0 11 ∧ RGetC [] false false [] 0 0 11 := by
  refine ⟨fun W A c _ _ => (number_Get.nil A c W).mono ?_, fun W A c _ _ => (ref_Get.nil A c W).mono ?_⟩
  · rintro e w' ⟨rfl, hb⟩; exact ⟨_, rfl, Kd.R_nil _ _ _ _ _, hb⟩
  · rintro e w' ⟨rfl, hb⟩; exact ⟨_, rfl, Kd.R_nil _ _ _ _ _, hb⟩
theorem getC_big {l : List Int} (h : 0 < l.length) (hv : 2 < rd l 0) : GetC l false false [] 0 0 11 ∧ RGetC l false false [] 0 0 11 := by
  constructor
  · intro W A c hr hc
    obtain ⟨ad, rfl, hx⟩ := first_byte hr h
    refine (number_Get.big ad l.length c (rd l 0) (by omega) hv W hx).mono ?_
    rintro e w' ⟨rfl, hb⟩; exact ⟨_, rfl, Kd.R_nil _ _ _ _ _, hb⟩
  · intro W A c hr hc
    obtain ⟨ad, rfl, hx⟩ := first_byte hr h
    refine (ref_Get.big ad l.length c (rd l 0) (by omega) hv W hx).mono ?_
    rintro e w' ⟨rfl, hb⟩; exact ⟨_, rfl, Kd.R_nil _ _ _ _ _, hb⟩
theorem getC_two {l : List Int} (h : 0 < l.length) (hv : rd l 0 = 2) (h17 : ¬ l.length = 17) : GetC l false false [] 0 0 11 ∧ RGetC l false false [] 0 0 11 := by
  constructor
  · intro W A c hr hc
    obtain ⟨ad, rfl, hx⟩ := first_byte hr h
    refine (number_Get.two ad l.length c (rd l 0) (by omega) hv (by omega) W hx).mono ?_
    rintro e w' ⟨rfl, hb⟩; exact ⟨_, rfl, Kd.R_nil _ _ _ _ _, hb⟩
  · intro W A c hr hc
    obtain ⟨ad, rfl, hx⟩ := first_byte hr h
    refine (ref_Get.two ad l.length c (rd l 0) (by omega) hv (by omega) W hx).mono ?_
    rintro e w' ⟨rfl, hb⟩; exact ⟨_, rfl, Kd.R_nil _ _ _ _ _, hb⟩
theorem getC_pair {l : List Int} (hb : ∀ x ∈ l, 0 ≤ x ∧ x < 256) (hv : rd l 0 = 2) (h17 : l.length = 17) : GetC l true false [] (w8 (l.drop 1) 0 8).toNat (w8 (l.drop 1) 8 8).toNat 0 ∧ RGetC l true false [] (w8 (l.drop 1) 0 8).toNat (w8 (l.drop 1) 8 8).toNat 0 := by
  constructor
  · intro W A c hr hc
    obtain ⟨ad, rfl, hx⟩ := first_byte hr (by omega)
    refine (number_Get.pair ad c l (l.drop 1) hv rfl W hr hc h17 hb).mono ?_
    rintro e w' ⟨rfl, hb⟩; exact ⟨_, rfl, Kd.R_nil _ _ _ _ _, hb⟩
  · intro W A c hr hc
    obtain ⟨ad, rfl, hx⟩ := first_byte hr (by omega)
    refine (ref_Get.pair ad c l (l.drop 1) hv rfl W hr hc h17 hb).mono ?_
    rintro e w' ⟨rfl, hb⟩; exact ⟨_, rfl, Kd.R_nil _ _ _ _ _, hb⟩
theorem getC_whole {l : List Int} {v : Int} {s : Bool} (h : 0 < l.length) (hl : l.length ≤ 140737488351232) (hv : (v = 0 ∧ s = false) ∨ (v = 1 ∧ s = true)) (h0 : rd l 0 = v) (ho : okN s (l.drop 1) = true) : GetC l false s (l.drop 1) 0 0 0 ∧ RGetC l false s (l.drop 1) 0 0 0 := by
  have e1 := right_eq s (l.drop 1)
  have e2 := rright_eq s (l.drop 1)
  rw [ho] at e1 e2
  constructor
  · intro W A c hr hc
    obtain ⟨ad, rfl, hx⟩ := first_byte hr h
    exact number_Get.whole ad c l (l.drop 1) v s h hv h0 rfl W hr hc hl e1
  · intro W A c hr hc
    obtain ⟨ad, rfl, hx⟩ := first_byte hr h
    exact ref_Get.whole ad c l (l.drop 1) v s h hv h0 rfl W hr hc hl e2
theorem getC_wbad {l : List Int} {v : Int} {s : Bool} (h : 0 < l.length) (hl : l.length ≤ 140737488351232) (hv : (v = 0 ∧ s = false) ∨ (v = 1 ∧ s = true)) (h0 : rd l 0 = v) (ho : okN s (l.drop 1) = false) : GetC l false false [] 0 0 11 ∧ RGetC l false false [] 0 0 11 := by
  have e1 := right_eq s (l.drop 1)
  have e2 := rright_eq s (l.drop 1)
  rw [ho] at e1 e2
  constructor
  · intro W A c hr hc
    obtain ⟨ad, rfl, hx⟩ := first_byte hr h
    refine (number_Get.wbad ad c l (l.drop 1) v s h hv h0 rfl W hr hc hl e1).mono ?_
    rintro e w' ⟨rfl, hb⟩; exact ⟨_, rfl, Kd.R_nil _ _ _ _ _, hb⟩
  · intro W A c hr hc
    obtain ⟨ad, rfl, hx⟩ := first_byte hr h
    refine (ref_Get.wbad ad c l (l.drop 1) v s h hv h0 rfl W hr hc hl e2).mono ?_
    rintro e w' ⟨rfl, hb⟩; exact ⟨_, rfl, Kd.R_nil _ _ _ _ _, hb⟩
theorem rd_head {l : List Int} (h : 0 < l.length) : l = rd l 0 :: l.drop 1 := by
  cases l with
  | nil => simp at h
  | cons a t => rfl
theorem bits_zero : bitsN 0 = 0 := by decide +kernel
/-- Any bytes are a number, which is those bytes again, or are refused. -/
theorem get_any (l : List Int) (hb : ∀ x ∈ l, 0 ≤ x ∧ x < 256) (hl : l.length ≤ 140737488351232) : ∃ zp zs zl za zb, (GetC l zp zs zl za zb 0 ∧ RGetC l zp zs zl za zb 0 ∧ PutC zp zs zl za zb l 0) ∨ (GetC l zp zs zl za zb 11 ∧ RGetC l zp zs zl za zb 11) := by
  by_cases h : 0 < l.length
  · have hd := rd_head h
    have hr := hb (rd l 0) (by rw [hd]; exact List.mem_cons_self)
    have hbt : ∀ x ∈ l.drop 1, 0 ≤ x ∧ x < 256 := fun x hx => hb x (List.mem_of_mem_drop hx)
    by_cases h2 : 2 < rd l 0
    · exact ⟨_, _, _, _, _, .inr (getC_big h h2)⟩
    · by_cases h3 : rd l 0 = 2
      · by_cases h17 : l.length = 17
        · have ht : (l.drop 1).length = 16 := by rw [List.length_drop, h17]
          have hg := getC_pair hb h3 h17
          refine ⟨_, _, _, _, _, .inl ⟨hg.1, hg.2, ?_⟩⟩
          have hp := putC_good (p := true) (s := false) (l := []) (x := (w8 (l.drop 1) 0 8).toNat) (y := (w8 (l.drop 1) 8 8).toNat) rfl (by simp) (w8_lt _ hbt 0) (w8_lt _ hbt 8)
          have e : putB true false [] (w8 (l.drop 1) 0 8).toNat (w8 (l.drop 1) 8 8).toNat = l := by
            unfold putB
            rw [if_pos rfl, be8_w8 _ hbt 0 (by omega), be8_w8 _ hbt 8 (by omega), List.drop_zero, List.take_of_length_le (l := (l.drop 1).drop 8) (by rw [List.length_drop]; omega), List.take_append_drop]
            rw [h3] at hd
            exact hd.symm
          rw [e] at hp
          exact hp
        · exact ⟨_, _, _, _, _, .inr (getC_two h h3 h17)⟩
      · have hs : ∃ (v : Int) (s : Bool), ((v = 0 ∧ s = false) ∨ (v = 1 ∧ s = true)) ∧ rd l 0 = v := by
          by_cases h4 : rd l 0 = 0
          · exact ⟨0, false, .inl ⟨rfl, rfl⟩, h4⟩
          · exact ⟨1, true, .inr ⟨rfl, rfl⟩, by omega⟩
        obtain ⟨v, s, hv, h0⟩ := hs
        cases ho : okN s (l.drop 1)
        · exact ⟨_, _, _, _, _, .inr (getC_wbad h hl hv h0 ho)⟩
        · have hg := getC_whole h hl hv h0 ho
          refine ⟨_, _, _, _, _, .inl ⟨hg.1, hg.2, ?_⟩⟩
          have hp := putC_good (p := false) (s := s) (l := l.drop 1) (x := 0) (y := 0) (by unfold rightN; rw [if_neg Bool.false_ne_true, ho, bits_zero]; rfl) (by rw [List.length_drop]; omega) (by decide) (by decide)
          have e : putB false s (l.drop 1) 0 0 = l := by
            unfold putB
            rw [if_neg Bool.false_ne_true]
            rw [h0] at hd
            rcases hv with ⟨rfl, rfl⟩ | ⟨rfl, rfl⟩
            · rw [if_neg Bool.false_ne_true]; exact hd.symm
            · rw [if_pos rfl]; exact hd.symm
          rw [e] at hp
          exact hp
  · obtain rfl : l = [] := List.length_eq_zero_iff.1 (by omega)
    exact ⟨_, _, _, _, _, .inr getC_nil⟩
/-- Any number that can be is read back from its bytes. -/
theorem get_put {p s : Bool} {l : List Int} {x y : Nat} (h : rightN p s l x y (okN s l) = true) (hb : ∀ x ∈ l, 0 ≤ x ∧ x < 256) (hl : l.length ≤ 140737488351232) (hx : x < 18446744073709551616) (hy : y < 18446744073709551616) : GetC (putB p s l x y) p s l x y 0 := by
  cases p
  · have h3 : okN s l = true ∧ bitsN x = 0 ∧ bitsN y = 0 := by
      unfold rightN at h
      simp at h
      exact ⟨h.1.1, h.1.2, h.2⟩
    obtain rfl := bitsN_zero h3.2.1
    obtain rfl := bitsN_zero h3.2.2
    have hln : l.length ≤ 128 := by
      have ho := h3.1
      unfold okN at ho
      by_cases e : l = []
      · subst e; simp
      · rw [if_neg e, Bool.and_eq_true, decide_eq_true_eq, decide_eq_true_eq] at ho
        exact ho.2
    have hg := getC_whole (l := putB false s l 0 0) (v := if s = true then 1 else 0) (s := s) (by unfold putB; simp) (by unfold putB; rw [if_neg Bool.false_ne_true]; simp; omega) (by cases s; exact .inl ⟨rfl, rfl⟩; exact .inr ⟨rfl, rfl⟩) (by unfold putB; rw [if_neg Bool.false_ne_true]; rfl) (by unfold putB; rw [if_neg Bool.false_ne_true]; exact h3.1)
    have e : (putB false s l 0 0).drop 1 = l := by unfold putB; rw [if_neg Bool.false_ne_true]; rfl
    have hg1 := hg.1
    rw [e] at hg1
    exact hg1
  · have h3 : s = false ∧ l = [] := by
      unfold rightN at h
      rw [if_pos rfl, Bool.and_eq_true] at h
      exact ⟨by simpa using h.1, List.length_eq_zero_iff.1 (of_decide_eq_true h.2)⟩
    obtain ⟨rfl, rfl⟩ := h3
    have hr : ∀ n, ∀ z ∈ be8 n, 0 ≤ z ∧ z < 256 := fun n z hz => by
      unfold be8 at hz
      obtain ⟨k, _, rfl⟩ := List.mem_map.1 hz
      unfold be8k
      omega
    have e : putB true false [] x y = 2 :: (be8 x ++ be8 y) := rfl
    have hg := (getC_pair (l := putB true false [] x y) (by
      rw [e]
      intro z hz
      rcases List.mem_cons.1 hz with rfl | hz
      · omega
      · rcases List.mem_append.1 hz with hz | hz
        · exact hr _ _ hz
        · exact hr _ _ hz) rfl (by rw [e, List.length_cons, List.length_append, be8_len, be8_len])).1
    have ed : (putB true false [] x y).drop 1 = be8 x ++ be8 y := rfl
    have w1 : w8 (be8 x ++ be8 y) 0 8 = (x : Int) := w8_be8 x hx [] (be8 y) 0 rfl
    have w2 : w8 (be8 x ++ be8 y) 8 8 = (y : Int) := by
      have h := w8_be8 y hy (be8 x) [] 8 (be8_len x)
      rw [List.append_nil] at h
      exact h
    rw [ed, w1, w2, Int.toNat_natCast, Int.toNat_natCast] at hg
    exact hg
theorem bytes_law (xp xs : Bool) (Ax : Option Addr) (cx : Nat) (lx : List Int) (xa xb : Nat) (Ab : Option Addr) (cb : Nat) (lb : List Int) (hbx : ∀ x ∈ lx, 0 ≤ x ∧ x < 256) (ha : xa < 18446744073709551616) (hb : xb < 18446744073709551616) (hbb : ∀ x ∈ lb, 0 ≤ x ∧ x < 256) (w : World)
    (hrx : Kd.C (Kd.int .u8) w Ax lx.length lx) (hcx : lx.length ≤ cx) (hAx : Ax = none → cx = 0) (hlx : lx.length ≤ 140737488351232)
    (hrb : Kd.C (Kd.int .u8) w Ab lb.length lb) (hcb : lb.length ≤ cb) (hAb : Ab = none → cb = 0) (hlb : lb.length ≤ 140737488351232) :
    Calls Try.prog 15 #[.agg #[.bool xp, .bool xs, .slice Ax lx.length cx, .float .f64 xa, .float .f64 xb], .slice Ab lb.length cb] w fun e w' => e = .returned (.bool true) ∧ Below w.heap.size w w' := by
  obtain ⟨zp, zs, zl, za, zb, hG⟩ := get_any lb hbb hlb
  cases h : rightN xp xs lx xa xb (okN xs lx)
  · have hP := putC_bad h
    have hR := rputC_bad h
    rcases hG with ⟨g1, g2, g3⟩ | ⟨g1, g2⟩
    · exact bytes_walk_0_1 xp xs Ax cx lx xa xb Ab cb lb [] zp zs zl za zb w hrx hcx hAx hlx hrb hcb hAb hlb hP hR g1 g2 g3
    · exact bytes_walk_11_1 xp xs Ax cx lx xa xb Ab cb lb [] zp zs zl za zb w hrx hcx hAx hlx hrb hcb hAb hlb hP hR g1 g2
  · have hP := putC_good h hlx ha hb
    have hR := rputC_good h hlx ha hb
    have hB := get_put h hbx hlx ha hb
    rcases hG with ⟨g1, g2, g3⟩ | ⟨g1, g2⟩
    · exact bytes_walk_0_0 xp xs Ax cx lx xa xb Ab cb lb _ zp zs zl za zb w hrx hcx hAx hlx hrb hcb hAb hlb hP hR g1 g2 g3 hB
    · exact bytes_walk_11_0 xp xs Ax cx lx xa xb Ab cb lb _ zp zs zl za zb w hrx hcx hAx hlx hrb hcb hAb hlb hP hR g1 g2 hB

end Go.Proofs.Ytfjbhccapgnkiaa.P
