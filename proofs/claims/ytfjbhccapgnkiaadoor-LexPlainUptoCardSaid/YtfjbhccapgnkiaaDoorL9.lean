/-
What the reader's word does: one contract out of its arms (a condition: what whole.Read answers).
-/
import Derived.Test.YtfjbhccapgnkiaaDoorL7
import Derived.Test.YtfjbhccapgnkiaaDoorLB
namespace Go.Proofs.YtfjbhccapgnkiaaDoor.P
open Go.RowKit Go.Proofs.YtfjbhccapgnkiaaDoorW.PrintWords Go.Proofs.YtfjbhccapgnkiaaDoorW.PrintLast Go.Proofs.YtfjbhccapgnkiaaDoorW.PrintMore
set_option linter.unusedVariables false
set_option linter.unusedSimpArgs false
/-- Which texts whole.Read takes. -/
def ReadsNumber (ok : ByteArray → Bool) : Prop := ∀ (t : ByteArray), t.size ≤ 140737488351232 → ∀ (w : World), Calls Tryd.prog 34 #[.string t] w fun e w' => ∃ b A n c r, e = .returned (.tuple #[.agg #[.bool b, .slice A n c], .int .i64 r]) ∧ (r == 0) = ok t ∧ Below w.heap.size w w'
theorem St.off {w0 w W : World} {g : Nat} {s : ByteArray} {i b2 b4 : Nat} {k a : Int} {t : ByteArray} (h : St w0 w W g s i b2 b4 k t a) (b j : Nat) (v : Value) (hg : g ≠ b) (h2 : b2 ≠ b) (h4 : b4 ≠ b) (hw : w.heap.size ≤ b) : St w0 w (W.setCell ⟨b, j, none⟩ v) g s i b2 b4 k t a :=
  ⟨h.isS.far hg v, below_set h.bel (Nat.le_trans h.lw hw), keep_far h.keep hw v, (Below.heap_setCell _ _ _ _ h2).trans h.c2, (Below.heap_setCell _ _ _ _ h4).trans h.c4, h.l2, h.l4, h.ne, h.lg, h.lw⟩
set_option maxHeartbeats 8000000 in
set_option maxRecDepth 100000 in
theorem lex_word.number {okN : ByteArray → Bool} (hR : ReadsNumber okN) (g : Nat) (s : ByteArray) (i : Nat) (hi : i < s.size) (hs : s.size ≤ 140737488351232) (w0 w : World) (hI : IsS37 w0 w g s i) (hB : Below w0.heap.size w0 w) (hl : isLetter (s[i]'hi) = false) (hd : isDigit (s[i]'hi) = true) :
    Calls Tryd.prog 21 #[.pointer (some ⟨g, 0, none⟩)] w fun e w' => e = .returned (.tuple #[.agg #[.int .i64 4, .string (s.extract i (ends isDigit s i)), .int .i64 i], .bool (okN (s.extract i (ends isDigit s i)))]) ∧ IsS37 w0 w' g s (ends isDigit s i : Nat) ∧ Below w0.heap.size w0 w' ∧ KeepBut w w' g none := by
  have hn0 := ends_le isDigit s i (Nat.le_of_lt hi)
  have hn1 := ends_ge isDigit s i
  obtain ⟨k1, hk⟩ : ∃ k, ends isDigit s i = k := ⟨_, rfl⟩
  rw [hk] at hn0 hn1
  rw [hk]
  replace hk := Aside0.mk hk
  have hu28 := Tryd.underlying28
  have hc1 := cellS37_1 hI.1
  have hlg := Aside0.mk hI.lt
  have hlw := Aside0.mk hB.size
  go_enter Tryd.func21, Tryd.ntmps21
  go_wp2_with (first | ((with_reducible refine gate_dst (N := 2) rfl ?_); (try (refine gate_guard (by rfl) ?_; dsimp only)); refine box_event ?hg (N := 2) ?hd (cs := #[.int .i64 0, .string ⟨#[]⟩, .int .i64 0]) (t := 28) ?hr ?_; (case hd => rfl); (case hg => rfl); (case hr => first | (go_simp; done) | (go_simp; rfl)); intro b2 hg2 wa2 hx2 ha2; replace hg2 := Aside0.mk hg2; have hI2 := hI.below ha2; clear hc1; have hc1 := cellS37_1 hI2.1) | ((with_reducible refine gate_dst (N := 4) rfl ?_); (try (refine gate_guard (by rfl) ?_; dsimp only)); refine box_event ?hg (N := 4) ?hd (cs := #[.int .i64 0, .string ⟨#[]⟩, .int .i64 0]) (t := 28) ?hr ?_; (case hd => rfl); (case hg => rfl); (case hr => first | (go_simp; done) | (go_simp; rfl)); intro b4 hg4 wa4 hx4 ha4; replace hg4 := Aside0.mk hg4; have hS4 := St.start hI hB hlg.out hg2.out hx2 ha2 hg4.out hx4 ha4; clear hc1; have hf40 := blk_frozen hx4 0; have hf41 := blk_frozen hx4 1; have hf42 := blk_frozen hx4 2; have hk40 := (blk_cell hx4 0).trans rfl; have hk41 := (blk_cell hx4 1).trans rfl; have hk42 := (blk_cell hx4 2).trans rfl))
  replace hS4 := Aside0.mk (((hS4.kind 0).text ⟨#[]⟩).place i)
  generalize (((wa4.setCell ⟨b4, 0, none⟩ (.int .i64 0)).setCell ⟨b4, 1, none⟩ (.string ⟨#[]⟩)).setCell ⟨b4, 2, none⟩ (.int .i64 i)) = W4 at hS4 ⊢
  clear hf40 hf41 hf42 hk40 hk41 hk42 hg2 hg4 hx2 hx4 ha2 ha4 hI2 hlg hlw wa2 wa4
  have hc0 := cellS37_0 hS4.out.isS.1
  have hc1 := cellS37_1 hS4.out.isS.1
  have p6 := eq_true (show (0 : Int) ≤ (i : Int) from by omega)
  have q6 := eq_true (show (i : Int) < (s.size : Int) from by omega)
  go_wp2
  repeat (go_quiet (fail); try go_wp2_with (first | (go_at_call 31; refine (tests_letter (s[i]'hi) _).mono ?_; rintro e w5 ⟨rfl, hb5⟩; rw [hl]; have hS5 := Aside0.mk ((hS4.out.drewN _).below hb5); clear hb5 hc0 hc1) | (go_at_call 33; refine (tests_digit (s[i]'hi) _).mono ?_; rintro e w6 ⟨rfl, hb6⟩; rw [hd]; have hS6 := Aside0.mk (hS5.out.below hb6); clear hb6; have hk0 := (blk_cell hS6.out.c4 0).trans rfl; have hf0 := blk_frozen hS6.out.c4 0) | (go_at_call 17; refine (lex_skip.calls tester_digit g s i (Nat.le_of_lt hi) hs w0 _ (hS6.out.kind 4).isS (hS6.out.kind 4).bel).mono ?_; rintro e w7 ⟨rfl, hI_, hB_, hK_⟩; have hS7 := Aside0.mk ((hS6.out.kind 4).call hI_ hB_ hK_); clear hI_ hB_ hK_; rw [hk.out] at hS7; clear hk0 hf0)))
  have hg7 : g ≠ w7.heap.size ∧ b2 ≠ w7.heap.size ∧ b4 ≠ w7.heap.size ∧ w.heap.size ≤ w7.heap.size := ⟨Nat.ne_of_lt hS7.out.isS.lt, Nat.ne_of_lt (blk_lt hS7.out.c2), Nat.ne_of_lt (blk_lt hS7.out.c4), Nat.le_trans hS7.out.l2 (Nat.le_of_lt (blk_lt hS7.out.c2))⟩
  have HH := Aside0.mk (hS7.out.below (Below.drew (Below.refl w7.heap.size w7)))
  have hu56 := Tryd.underlying56
  go_region_held3 (fun w' => w'.cell? ⟨g, 0, none⟩ = some (.string s) ∧ w'.cell? ⟨g, 1, none⟩ = some (.int .i64 k1) ∧ w'.cell? ⟨b4, 2, none⟩ = some (.int .i64 i))
    (first | exact ⟨cellS37_0 HH.out.isS.1, cellS37_1 HH.out.isS.1, (blk_cell HH.out.c4 2).trans rfl⟩ | (have hA_ := hS7.out.below (Below.drew (below_alloc (Below.refl w7.heap.size w7) (.cells #[.bool false, .slice none 0 0] 56))); exact ⟨cellS37_0 hA_.isS.1, cellS37_1 hA_.isS.1, (blk_cell hA_.c4 2).trans rfl⟩) | (have hA_ := HH.out.below (below_alloc (Below.refl w9.heap.size w9) (.cells #[.bool false, .slice none 0 0] 56)); exact ⟨cellS37_0 hA_.isS.1, cellS37_1 hA_.isS.1, (blk_cell hA_.c4 2).trans rfl⟩) | (have hA_ := HH.out.below (below_alloc (Below.refl w9.heap.size w9) (.cells #[.bool b, .slice A n c] 56)); exact ⟨cellS37_0 hA_.isS.1, cellS37_1 hA_.isS.1, (blk_cell hA_.c4 2).trans rfl⟩) | (have hA_ := (HH.out.off w7.heap.size 0 (.bool b) hg7.1 hg7.2.1 hg7.2.2.1 hg7.2.2.2).off w7.heap.size 1 (.slice A n c) hg7.1 hg7.2.1 hg7.2.2.1 hg7.2.2.2; exact ⟨cellS37_0 hA_.isS.1, cellS37_1 hA_.isS.1, (blk_cell hA_.c4 2).trans rfl⟩) | (simp [*]; done) | go_keep)
    (first | (go_at_call 34; refine (hR _ (by rw [ByteArray.size_extract]; omega) _).mono ?_; rintro e w9 ⟨b, A, n, c, r, rfl, hr, hb⟩; (first | (have n_ := Aside0.mk (HH.out.below hb); clear HH; have HH := n_; clear n_ hb) | (have n_ := Aside0.mk ((hS7.out.below (Below.drew (below_alloc (Below.refl w7.heap.size w7) (.cells #[.bool false, .slice none 0 0] 56)))).below hb); clear HH; have HH := n_; clear n_; have hx7 := (hb.block w7.heap.size (blk_lt (heap_alloc_new w7 (.cells #[.bool false, .slice none 0 0] 56)))).trans (heap_alloc_new w7 (.cells #[.bool false, .slice none 0 0] 56)); have hq0 := blk_frozen hx7 0; have hq1 := blk_frozen hx7 1; have hy0 := (blk_cell hx7 0).trans rfl; have hy1 := (blk_cell hx7 1).trans rfl; clear hb))))
  all_goals (first | (have h7_ := hx7; have HX := Aside0.mk ((HH.out.off w7.heap.size 0 (.bool b) hg7.1 hg7.2.1 hg7.2.2.1 hg7.2.2.2).off w7.heap.size 1 (.slice A n c) hg7.1 hg7.2.1 hg7.2.2.1 hg7.2.2.2); generalize (w9.setCell ⟨w7.heap.size, 0, none⟩ (.bool b)).setCell ⟨w7.heap.size, 1, none⟩ (.slice A n c) = WX at HX ⊢) | (have HX := Aside0.mk (HH.out.below (below_alloc (Below.refl w9.heap.size w9) (.cells #[.bool b, .slice A n c] 56))); generalize w9.alloc (.cells #[.bool b, .slice A n c] 56) = WX at HX ⊢))
  all_goals clear HH hS4 hS5 hS6 hS7 hB hI
  all_goals go_wp2
  all_goals
    refine still_letter 12 (by kernel_rfl) (by kernel_rfl) ?_
    intro wd hwd hbd
    simp only [List.take_succ_cons, List.take_zero, List.drop_succ_cons, List.drop_zero]
    have hSd := Aside0.mk (HX.out.below hbd)
    have hcd0 := cellS37_0 hSd.out.isS.1
    have hcd1 := cellS37_1 hSd.out.isS.1
    have hk0 := (blk_cell hSd.out.c4 0).trans rfl
    have hk1x := (blk_cell hSd.out.c4 1).trans rfl
    have hk2x := (blk_cell hSd.out.c4 2).trans rfl
    have hf1 := blk_frozen hSd.out.c4 1
    repeat still_step
    refine wpStill_nil ?_
    have hr0 := (blk_cell hSd.out.c2 0).trans rfl
    have hr1 := (blk_cell hSd.out.c2 1).trans rfl
    have hr2 := (blk_cell hSd.out.c2 2).trans rfl
    have hq0 := blk_frozen hSd.out.c2 0
    have hq1 := blk_frozen hSd.out.c2 1
    have hq2 := blk_frozen hSd.out.c2 2
    have hne := hSd.out.ne
    have hne2 := Ne.symm hne
    go_wp2
  all_goals
    have hD := (hSd.out.text (s.extract i k1)).done rfl
    refine bodyPost_ret (results_ct3 rfl _ _ b2 28 _ (0, 0) _ rfl hD.1 hu28 rfl rfl) rfl ?_
    exact ⟨rfl, hD.2.1, hD.2.2.1, hD.2.2.2⟩
end Go.Proofs.YtfjbhccapgnkiaaDoor.P
namespace Go.Proofs.YtfjbhccapgnkiaaDoor.P
open Go.RowKit Go.Proofs.YtfjbhccapgnkiaaDoorW.PrintWords Go.Proofs.YtfjbhccapgnkiaaDoorW.PrintLast Go.Proofs.YtfjbhccapgnkiaaDoorW.PrintMore
set_option linter.unusedVariables false
theorem lex_word.calls {okN : ByteArray → Bool} (hR : ReadsNumber okN) (g : Nat) (s : ByteArray) (i : Nat) (hi : i < s.size) (hs : s.size ≤ 140737488351232) (w0 w : World) (hI : IsS37 w0 w g s i) (hB : Below w0.heap.size w0 w) :
    Calls Tryd.prog 21 #[.pointer (some ⟨g, 0, none⟩)] w fun e w' => ∃ (k : Int) (t : ByteArray) (ok : Bool) (j : Nat), e = .returned (.tuple #[.agg #[.int .i64 k, .string t, .int .i64 i], .bool ok]) ∧ WordIs okN s i k t ok j ∧ IsS37 w0 w' g s (j : Nat) ∧ Below w0.heap.size w0 w' ∧ KeepBut w w' g none := by
  cases hl : isLetter (s[i]'hi)
  · cases hd : isDigit (s[i]'hi)
    · by_cases h39 : s[i]'hi = 39
      · exact (lex_word.text g s i hi hs w0 w hI hB hl hd h39).mono fun e w' ⟨t, ok, j, he, hQ, h⟩ => ⟨_, _, _, _, he, wordIs_text hi hl hd h39 hQ, h⟩
      by_cases h35 : s[i]'hi = 35
      · by_cases hp : byteAt s (i + 1) = 40
        · exact (lex_word.list g s i hi hs w0 w hI hB hl hd h35 hp).mono fun e w' ⟨he, h⟩ => ⟨_, _, _, _, he, wordIs_list hi hl hd h35 hp, h⟩
        · exact (lex_word.symbol g s i hi hs w0 w hI hB hl hd h35 hp).mono fun e w' ⟨t, ok, j, he, hQ, h⟩ => ⟨_, _, _, _, he, wordIs_symbol hi hl hd h35 hp hQ, h⟩
      by_cases h58 : s[i]'hi = 58
      · by_cases hp : byteAt s (i + 1) = 61
        · exact (lex_word.assign g s i hi hs w0 w hI hB hl hd h58 hp).mono fun e w' ⟨he, h⟩ => ⟨_, _, _, _, he, wordIs_assign hi hl hd h58 hp, h⟩
        · exact (lex_word.colon g s i hi hs w0 w hI hB hl hd h58 hp).mono fun e w' ⟨he, h⟩ => ⟨_, _, _, _, he, wordIs_colon hi hl hd h58 hp, h⟩
      cases hg : hit isSign s i
      · by_cases hp : 0 ≤ plc singles (s[i]'hi)
        · exact (lex_word.single g s i hi hs w0 w hI hB hl hd h39 h35 h58 hg hp).mono fun e w' ⟨he, h⟩ => ⟨_, _, _, _, he, wordIs_single hi hl hd h39 h35 h58 hg hp, h⟩
        · exact (lex_word.nothing g s i hi hs w0 w hI hB hl hd h39 h35 h58 hg (by omega)).mono fun e w' ⟨he, h⟩ => ⟨_, _, _, _, he, wordIs_nothing hi hl hd h39 h35 h58 hg (by omega), h⟩
      · exact (lex_word.sign g s i hi hs w0 w hI hB hl hd h39 h35 h58 hg).mono fun e w' ⟨he, h⟩ => ⟨_, _, _, _, he, wordIs_sign hi hl hd h39 h35 h58 hg, h⟩
    · exact (lex_word.number hR g s i hi hs w0 w hI hB hl hd).mono fun e w' ⟨he, h⟩ => ⟨_, _, _, _, he, wordIs_number hi hl hd, h⟩
  · cases hcl : colonAt s (nameEnd s i)
    · exact (lex_word.name g s i hi hs w0 w hI hB hl hcl).mono fun e w' ⟨he, h⟩ => ⟨_, _, _, _, he, wordIs_name hi hl hcl, h⟩
    · exact (lex_word.key g s i hi hs w0 w hI hB hl hcl).mono fun e w' ⟨he, h⟩ => ⟨_, _, _, _, he, wordIs_key hi hl hcl, h⟩
end Go.Proofs.YtfjbhccapgnkiaaDoor.P
