import Derived.Test.YtpodpmjlkbbkoaaQCL7
import Derived.Test.YtpodpmjlkbbkoaaQCLB
import Derived.ScopeJumps
set_option linter.all false
set_option maxHeartbeats 16000000
set_option maxRecDepth 100000
namespace Go.Proofs.Ytpodpmjlkbbkoaa.P
open Go.RowKit Go.Proofs.YtpodpmjlkbbkoaaW.PrintWords Go.Proofs.YtpodpmjlkbbkoaaW.PrintLast Go.Proofs.YtpodpmjlkbbkoaaW.PrintMore
def ReadsNumber (ok : ByteArray → Bool) : Prop := ∀ (t : ByteArray), t.size ≤ 140737488351232 → ∀ (w : World), Calls Try.prog 43 #[.string t] w fun e w' => ∃ b A n c r, e = .returned (.tuple #[.agg #[.bool b, .slice A n c], .int .i64 r]) ∧ (r == 0) = ok t ∧ Below w.heap.size w w'
theorem St.off {w0 w W : World} {g : Nat} {s : ByteArray} {i b2 b4 : Nat} {k a : Int} {t : ByteArray} (h : St w0 w W g s i b2 b4 k t a) (b j : Nat) (v : Value) (hg : g ≠ b) (h2 : b2 ≠ b) (h4 : b4 ≠ b) (hw : w.heap.size ≤ b) : St w0 w (W.setCell ⟨b, j, none⟩ v) g s i b2 b4 k t a :=
 ⟨h.isS.far hg v, below_set h.bel (Nat.le_trans h.lw hw), keep_far h.keep hw v, (Below.heap_setCell _ _ _ _ h2).trans h.c2, (Below.heap_setCell _ _ _ _ h4).trans h.c4, h.l2, h.l4, h.ne, h.lg, h.lw⟩
theorem lex_word.number {okN : ByteArray → Bool} (hR : ReadsNumber okN) (g : Nat) (s : ByteArray) (i : Nat) (hi : i < s.size) (hs : s.size ≤ 140737488351232) (w0 w : World) (hI : IsS37 w0 w g s i) (hB : Below w0.heap.size w0 w) (hl : isLetter (s[i]'hi) = false) (hd : isDigit (s[i]'hi) = true) :
  Calls Try.prog 32 #[.pointer (some ⟨g, 0, none⟩)] w fun e w' => e = .returned (.tuple #[.agg #[.int .i64 4, .string (s.extract i (ends isDigit s i)), .int .i64 i], .bool (okN (s.extract i (ends isDigit s i)))]) ∧ IsS37 w0 w' g s (ends isDigit s i : Nat) ∧ Below w0.heap.size w0 w' ∧ KeepBut w w' g none := by
 have hn0 := ends_le isDigit s i (Nat.le_of_lt hi)
 have hn1 := ends_ge isDigit s i
 obtain ⟨k1, hk⟩ : ∃ k, ends isDigit s i = k := ⟨_, rfl⟩
 rw [hk] at hn0 hn1
 rw [hk]
 replace hk := Aside0.mk hk
 have hu28 := Try.underlying64
 have hc1 := cellS37_1 hI.1
 have hlg := Aside0.mk hI.lt
 have hlw := Aside0.mk hB.size
 go_enter Try.func32, Try.ntmps32
 go_wp2_with (first | ((with_reducible refine gate_dst (N := 2) rfl ?_); (try (refine gate_guard (by rfl) ?_; dsimp only)); refine box_event ?hg (N := 2) ?hd (cs := #[.int .i64 0, .string ⟨#[]⟩, .int .i64 0]) (t := 64) ?hr ?_; (case hd => rfl); (case hg => rfl); (case hr => first | (go_simp; done) | (go_simp; rfl)); intro b2 hg2 wa2 hx2 ha2; replace hg2 := Aside0.mk hg2; have hI2 := hI.below ha2; clear hc1; have hc1 := cellS37_1 hI2.1) | ((with_reducible refine gate_dst (N := 4) rfl ?_); (try (refine gate_guard (by rfl) ?_; dsimp only)); refine box_event ?hg (N := 4) ?hd (cs := #[.int .i64 0, .string ⟨#[]⟩, .int .i64 0]) (t := 64) ?hr ?_; (case hd => rfl); (case hg => rfl); (case hr => first | (go_simp; done) | (go_simp; rfl)); intro b4 hg4 wa4 hx4 ha4; replace hg4 := Aside0.mk hg4; have hS4 := St.start hI hB hlg.out hg2.out hx2 ha2 hg4.out hx4 ha4; clear hc1; have hf40 := blk_frozen hx4 0; have hf41 := blk_frozen hx4 1; have hf42 := blk_frozen hx4 2; have hk40 := (blk_cell hx4 0).trans rfl; have hk41 := (blk_cell hx4 1).trans rfl; have hk42 := (blk_cell hx4 2).trans rfl))
 replace hS4 := Aside0.mk (((hS4.kind 0).text ⟨#[]⟩).place i)
 generalize (((wa4.setCell ⟨b4, 0, none⟩ (.int .i64 0)).setCell ⟨b4, 1, none⟩ (.string ⟨#[]⟩)).setCell ⟨b4, 2, none⟩ (.int .i64 i)) = W4 at hS4 ⊢
 clear hf40 hf41 hf42 hk40 hk41 hk42 hg2 hg4 hx2 hx4 ha2 ha4 hI2 hlg hlw wa2 wa4
 have hc0 := cellS37_0 hS4.out.isS.1
 have hc1 := cellS37_1 hS4.out.isS.1
 have o := eq_true (show (0 : Int) ≤ (i : Int) from by omega)
 have p := eq_true (show (i : Int) < (s.size : Int) from by omega)
 go_wp2
 repeat (go_quiet (fail); try go_wp2_with (first | (go_at_call 39; refine (tests_letter (s[i]'hi) _).mono ?_; rintro e q ⟨rfl, hb5⟩; rw [hl]; have hS5 := Aside0.mk ((hS4.out.drewN _).below hb5); clear hb5 hc0 hc1) | (go_at_call 42; refine (tests_digit (s[i]'hi) _).mono ?_; rintro e u ⟨rfl, hb6⟩; rw [hd]; have hS6 := Aside0.mk (hS5.out.below hb6); clear hb6; have hk0 := (blk_cell hS6.out.c4 0).trans rfl; have hf0 := blk_frozen hS6.out.c4 0) | (go_at_call 28; refine (lex_skip.calls tester_digit g s i (Nat.le_of_lt hi) hs w0 _ (hS6.out.kind 4).isS (hS6.out.kind 4).bel).mono ?_; rintro e a ⟨rfl, hI_, hB_, hK_⟩; have hS7 := Aside0.mk ((hS6.out.kind 4).call hI_ hB_ hK_); clear hI_ hB_ hK_; rw [hk.out] at hS7; clear hk0 hf0)))
 have hg7 : g ≠ a.heap.size ∧ b2 ≠ a.heap.size ∧ b4 ≠ a.heap.size ∧ w.heap.size ≤ a.heap.size := ⟨Nat.ne_of_lt hS7.out.isS.lt, Nat.ne_of_lt (blk_lt hS7.out.c2), Nat.ne_of_lt (blk_lt hS7.out.c4), Nat.le_trans hS7.out.l2 (Nat.le_of_lt (blk_lt hS7.out.c2))⟩
 have HH := Aside0.mk (hS7.out.below (Below.drew (Below.refl a.heap.size a)))
 have hu56 := Try.underlying92
 go_region_held3 (fun w' => w'.cell? ⟨g, 0, none⟩ = some (.string s) ∧ w'.cell? ⟨g, 1, none⟩ = some (.int .i64 k1) ∧ w'.cell? ⟨b4, 2, none⟩ = some (.int .i64 i))
  (first | exact ⟨cellS37_0 HH.out.isS.1, cellS37_1 HH.out.isS.1, (blk_cell HH.out.c4 2).trans rfl⟩ | (have hA_ := hS7.out.below (Below.drew (below_alloc (Below.refl a.heap.size a) (.cells #[.bool false, .slice none 0 0] 92))); exact ⟨cellS37_0 hA_.isS.1, cellS37_1 hA_.isS.1, (blk_cell hA_.c4 2).trans rfl⟩) | (have hA_ := HH.out.below (below_alloc (Below.refl d.heap.size d) (.cells #[.bool false, .slice none 0 0] 92)); exact ⟨cellS37_0 hA_.isS.1, cellS37_1 hA_.isS.1, (blk_cell hA_.c4 2).trans rfl⟩) | (have hA_ := HH.out.below (below_alloc (Below.refl d.heap.size d) (.cells #[.bool b, .slice A n c] 92)); exact ⟨cellS37_0 hA_.isS.1, cellS37_1 hA_.isS.1, (blk_cell hA_.c4 2).trans rfl⟩) | (have hA_ := (HH.out.off a.heap.size 0 (.bool b) hg7.1 hg7.2.1 hg7.2.2.1 hg7.2.2.2).off a.heap.size 1 (.slice A n c) hg7.1 hg7.2.1 hg7.2.2.1 hg7.2.2.2; exact ⟨cellS37_0 hA_.isS.1, cellS37_1 hA_.isS.1, (blk_cell hA_.c4 2).trans rfl⟩) | (simp [*]; done) | go_keep)
  (first | (go_at_call 43; refine (hR _ (by rw [ByteArray.size_extract]; omega) _).mono ?_; rintro e d ⟨b, A, n, c, r, rfl, hr, j⟩; (first | (have n_ := Aside0.mk (HH.out.below j); clear HH; have HH := n_; clear n_ j) | (have n_ := Aside0.mk ((hS7.out.below (Below.drew (below_alloc (Below.refl a.heap.size a) (.cells #[.bool false, .slice none 0 0] 92)))).below j); clear HH; have HH := n_; clear n_; have hx7 := (j.block a.heap.size (blk_lt (heap_alloc_new a (.cells #[.bool false, .slice none 0 0] 92)))).trans (heap_alloc_new a (.cells #[.bool false, .slice none 0 0] 92)); have hq0 := blk_frozen hx7 0; have hq1 := blk_frozen hx7 1; have l := (blk_cell hx7 0).trans rfl; have m := (blk_cell hx7 1).trans rfl; clear j))))
 all_goals (first | (have h7_ := hx7; have HX := Aside0.mk ((HH.out.off a.heap.size 0 (.bool b) hg7.1 hg7.2.1 hg7.2.2.1 hg7.2.2.2).off a.heap.size 1 (.slice A n c) hg7.1 hg7.2.1 hg7.2.2.1 hg7.2.2.2); generalize (d.setCell ⟨a.heap.size, 0, none⟩ (.bool b)).setCell ⟨a.heap.size, 1, none⟩ (.slice A n c) = WX at HX ⊢) | (have HX := Aside0.mk (HH.out.below (below_alloc (Below.refl d.heap.size d) (.cells #[.bool b, .slice A n c] 92))); generalize d.alloc (.cells #[.bool b, .slice A n c] 92) = WX at HX ⊢))
 all_goals clear HH hS4 hS5 hS6 hS7 hB hI
 all_goals go_wp2
 all_goals
  refine still_letter 12 (by kernel_rfl) (by kernel_rfl) ?_
  intro wd hwd hbd
  simp only [List.take_succ_cons, List.take_zero, List.drop_succ_cons, List.drop_zero]
  have hSd := Aside0.mk (HX.out.below hbd)
  have hcd0 := cellS37_0 hSd.out.isS.1
  have hcd1 := cellS37_1 hSd.out.isS.1
  have hk0 := (blk_cell hSd.out.c4 0).trans rfl
  have hk1x := (blk_cell hSd.out.c4 1).trans rfl
  have hk2x := (blk_cell hSd.out.c4 2).trans rfl
  have hf1 := blk_frozen hSd.out.c4 1
  repeat still_step
  refine wpStill_nil ?_
  have hr0 := (blk_cell hSd.out.c2 0).trans rfl
  have hr1 := (blk_cell hSd.out.c2 1).trans rfl
  have hr2 := (blk_cell hSd.out.c2 2).trans rfl
  have hq0 := blk_frozen hSd.out.c2 0
  have hq1 := blk_frozen hSd.out.c2 1
  have hq2 := blk_frozen hSd.out.c2 2
  have hne := hSd.out.ne
  have hne2 := Ne.symm hne
  go_wp2
 all_goals
  have hD := (hSd.out.text (s.extract i k1)).done rfl
  refine bodyPost_ret (results_ct3 rfl _ _ b2 64 _ (0, 0) _ rfl hD.1 hu28 rfl rfl) rfl ?_
  exact ⟨rfl, hD.2.1, hD.2.2.1, hD.2.2.2⟩
end Go.Proofs.Ytpodpmjlkbbkoaa.P
namespace Go.Proofs.Ytpodpmjlkbbkoaa.P
open Go.RowKit Go.Proofs.YtpodpmjlkbbkoaaW.PrintWords Go.Proofs.YtpodpmjlkbbkoaaW.PrintLast Go.Proofs.YtpodpmjlkbbkoaaW.PrintMore
theorem lex_word.calls {okN : ByteArray → Bool} (hR : ReadsNumber okN) (g : Nat) (s : ByteArray) (i : Nat) (hi : i < s.size) (hs : s.size ≤ 140737488351232) (w0 w : World) (hI : IsS37 w0 w g s i) (hB : Below w0.heap.size w0 w) :
  Calls Try.prog 32 #[.pointer (some ⟨g, 0, none⟩)] w fun e w' => ∃ (k : Int) (t : ByteArray) (ok : Bool) (j : Nat), e = .returned (.tuple #[.agg #[.int .i64 k, .string t, .int .i64 i], .bool ok]) ∧ WordIs okN s i k t ok j ∧ IsS37 w0 w' g s (j : Nat) ∧ Below w0.heap.size w0 w' ∧ KeepBut w w' g none := by
 cases hl : isLetter (s[i]'hi)
 ·cases hd : isDigit (s[i]'hi)
  ·by_cases h39 : s[i]'hi = 39
   ·exact (lex_word.text g s i hi hs w0 w hI hB hl hd h39).mono fun e w' ⟨t, ok, j, he, hQ, h⟩ => ⟨_, _, _, _, he, wordIs_text hi hl hd h39 hQ, h⟩
   by_cases h35 : s[i]'hi = 35
   ·by_cases hp : byteAt s (i + 1) = 40
    ·exact (lex_word.list g s i hi hs w0 w hI hB hl hd h35 hp).mono fun e w' ⟨he, h⟩ => ⟨_, _, _, _, he, wordIs_list hi hl hd h35 hp, h⟩
    ·exact (lex_word.symbol g s i hi hs w0 w hI hB hl hd h35 hp).mono fun e w' ⟨t, ok, j, he, hQ, h⟩ => ⟨_, _, _, _, he, wordIs_symbol hi hl hd h35 hp hQ, h⟩
   by_cases h58 : s[i]'hi = 58
   ·by_cases hp : byteAt s (i + 1) = 61
    ·exact (lex_word.assign g s i hi hs w0 w hI hB hl hd h58 hp).mono fun e w' ⟨he, h⟩ => ⟨_, _, _, _, he, wordIs_assign hi hl hd h58 hp, h⟩
    ·exact (lex_word.colon g s i hi hs w0 w hI hB hl hd h58 hp).mono fun e w' ⟨he, h⟩ => ⟨_, _, _, _, he, wordIs_colon hi hl hd h58 hp, h⟩
   cases hg : hit isSign s i
   ·by_cases hp : 0 ≤ plc singles (s[i]'hi)
    ·exact (lex_word.single g s i hi hs w0 w hI hB hl hd h39 h35 h58 hg hp).mono fun e w' ⟨he, h⟩ => ⟨_, _, _, _, he, wordIs_single hi hl hd h39 h35 h58 hg hp, h⟩
    ·exact (lex_word.nothing g s i hi hs w0 w hI hB hl hd h39 h35 h58 hg (by omega)).mono fun e w' ⟨he, h⟩ => ⟨_, _, _, _, he, wordIs_nothing hi hl hd h39 h35 h58 hg (by omega), h⟩
   ·exact (lex_word.sign g s i hi hs w0 w hI hB hl hd h39 h35 h58 hg).mono fun e w' ⟨he, h⟩ => ⟨_, _, _, _, he, wordIs_sign hi hl hd h39 h35 h58 hg, h⟩
  ·exact (lex_word.number hR g s i hi hs w0 w hI hB hl hd).mono fun e w' ⟨he, h⟩ => ⟨_, _, _, _, he, wordIs_number hi hl hd, h⟩
 ·cases hcl : colonAt s (nameEnd s i)
  ·exact (lex_word.name g s i hi hs w0 w hI hB hl hcl).mono fun e w' ⟨he, h⟩ => ⟨_, _, _, _, he, wordIs_name hi hl hcl, h⟩
  ·exact (lex_word.key g s i hi hs w0 w hI hB hl hcl).mono fun e w' ⟨he, h⟩ => ⟨_, _, _, _, he, wordIs_key hi hl hcl, h⟩
end Go.Proofs.Ytpodpmjlkbbkoaa.P
set_option maxHeartbeats 16000000
set_option maxRecDepth 100000
namespace Go.Proofs.Ytpodpmjlkbbkoaa.P
open Go
def twoJumps (l0 l1 : Nat) (J0 J1 : Act → World → Prop) (Q : Exit → Act → World → Prop) : Exit → Act → World → Prop
 | .goto l, a, w => (l = l0 ∧ J0 a w) ∨ (l = l1 ∧ J1 a w)
 | e, a, w => Q e a w
theorem wp_scope_two {P : Program} {a : Act} {w : World} {Q : Exit → Act → World → Prop} {c R0 R1 : Code} (l0 l1 : Nat) (J0 J1 : Act → World → Prop) (μ : Act → World → Nat) (h0 : findLabel c l0 = some (.seq .skip R0)) (h1 : findLabel c l1 = some R1)
  (first : (∀ a w, J0 a w → R0.wp P (twoJumps l0 l1 J0 J1 Q) a w) → c.wp P (twoJumps l0 l1 J0 J1 Q) a w)
  (pass00 : ∀ a w, J0 a w → R0.wp P (twoJumps l0 l1 (fun a' w' => J0 a' w' ∧ μ a' w' < μ a w) J1 Q) a w)
  (pass1 : ∀ a w, J1 a w → R1.wp P (twoJumps l0 l1 (fun _ _ => False) (fun _ _ => False) Q) a w) : (Code.scope c).wp P Q a w := by
 have pass0 : ∀ a w, J0 a w → (Code.seq .skip R0).wp P (twoJumps l0 l1 (fun a' w' => J0 a' w' ∧ μ a' w' < μ a w) J1 Q) a w :=
  fun a w h => wp_seq (wp_skip (pass00 a w h))
 replace first := first (fun a w h => Code.wp_mono (fun e a' w' hq => by
  cases e with
  | goto l => exact hq.imp (fun x => ⟨x.1, x.2.1⟩) id
  | _ => exact hq) (pass00 a w h))
 intro b k cs
 have hg0 : gotoIn l0 (.inScope c :: k) = some (.code (Code.seq .skip R0) :: .inScope c :: k) := by simp [gotoIn, h0]
 have hg1 : gotoIn l1 (.inScope c :: k) = some (.code R1 :: .inScope c :: k) := by simp [gotoIn, h1]
 have key1 : ∀ a w, J1 a w → ∃ e a' w', Q e a' w' ∧ Arrives P (lone (b.at a (.code R1 :: .inScope c :: k)) cs w) b k cs e a' w' := by
  intro a w hJ
  obtain ⟨e, a₁, w₁, hq, harr⟩ := pass1 a w hJ b (.inScope c :: k) cs
  cases e with
  | normal => exact ⟨.normal, a₁, w₁, hq, Steps.trans harr (.one step_inScope)⟩
  | exit id => exact ⟨.exit id, a₁, w₁, hq, fun k' hk => harr k' (by simp [exitTo, hk])⟩
  | goto l' => rcases hq with ⟨_, h⟩ | ⟨_, h⟩ <;> exact h.elim
  | ret => exact ⟨_, a₁, w₁, hq, harr⟩
  | panic ch => exact ⟨_, a₁, w₁, hq, harr⟩
  | outgrown => exact ⟨_, a₁, w₁, hq, harr⟩
 have key : ∀ n a w, μ a w = n → J0 a w → ∃ e a' w', Q e a' w' ∧ Arrives P (lone (b.at a (.code (Code.seq .skip R0) :: .inScope c :: k)) cs w) b k cs e a' w' := by
  intro n
  induction n using Nat.strongRecOn with
  | _ n ih =>
   intro a w hn hJ
   obtain ⟨e, a₁, w₁, hq, harr⟩ := pass0 a w hJ b (.inScope c :: k) cs
   cases e with
   | normal => exact ⟨.normal, a₁, w₁, hq, Steps.trans harr (.one step_inScope)⟩
   | exit id => exact ⟨.exit id, a₁, w₁, hq, fun k' hk => harr k' (by simp [exitTo, hk])⟩
   | goto l' =>
    rcases hq with ⟨rfl, hJ', hlt⟩ | ⟨rfl, hJ'⟩
    ·obtain ⟨e₂, a₂, w₂, hq₂, harr₂⟩ := ih _ (by omega) a₁ w₁ rfl hJ'
     exact ⟨e₂, a₂, w₂, hq₂, .of_steps (harr _ hg0) harr₂⟩
    ·obtain ⟨e₂, a₂, w₂, hq₂, harr₂⟩ := key1 a₁ w₁ hJ'
     exact ⟨e₂, a₂, w₂, hq₂, .of_steps (harr _ hg1) harr₂⟩
   | ret => exact ⟨_, a₁, w₁, hq, harr⟩
   | panic ch => exact ⟨_, a₁, w₁, hq, harr⟩
   | outgrown => exact ⟨_, a₁, w₁, hq, harr⟩
 obtain ⟨e, a₁, w₁, hq, harr⟩ := first b (.inScope c :: k) cs
 cases e with
 | normal => exact ⟨.normal, a₁, w₁, hq, .head step_scope (Steps.trans harr (.one step_inScope))⟩
 | exit id => exact ⟨.exit id, a₁, w₁, hq, fun k' hk => .head step_scope (harr k' (by simp [exitTo, hk]))⟩
 | goto l' =>
  rcases hq with ⟨rfl, hJ'⟩ | ⟨rfl, hJ'⟩
  ·obtain ⟨e₂, a₂, w₂, hq₂, harr₂⟩ := key _ a₁ w₁ rfl hJ'
   exact ⟨e₂, a₂, w₂, hq₂, .of_steps (.head step_scope (harr _ hg0)) harr₂⟩
  ·obtain ⟨e₂, a₂, w₂, hq₂, harr₂⟩ := key1 a₁ w₁ hJ'
   exact ⟨e₂, a₂, w₂, hq₂, .of_steps (.head step_scope (harr _ hg1)) harr₂⟩
 | ret => exact ⟨_, a₁, w₁, hq, .of_steps (.one step_scope) harr⟩
 | panic ch => exact ⟨_, a₁, w₁, hq, .of_steps (.one step_scope) harr⟩
 | outgrown => exact ⟨_, a₁, w₁, hq, .of_steps (.one step_scope) harr⟩
end Go.Proofs.Ytpodpmjlkbbkoaa.P
namespace Go.Proofs.Ytpodpmjlkbbkoaa.P
open Go.RowKit Go.Proofs.YtpodpmjlkbbkoaaW.PrintWords Go.Proofs.YtpodpmjlkbbkoaaW.PrintLast Go.Proofs.YtpodpmjlkbbkoaaW.PrintMore
def tk (t : PL.Tk) : S28 := ⟨(t.kind : Int), ⟨t.text.toArray⟩, (t.place : Int)⟩
def readS (okN : ByteArray → Bool) (s : ByteArray) : List S28 × Int × Int := if s.size ≤ 4096 then (match PL.read (okL okN) s.data.toList 0 with
  | .ok ts => (ts.map tk, 0, 0)
  | .error p => ([], (p : Int), 20)) else ([], 0, 3)
theorem LL_zero (s : ByteArray) : LL s 0 = s.data.toList := rfl
section
variable {ok : List UInt8 → Bool} {s : ByteArray}
theorem read_skip (i : Nat) : PL.read ok (LL s i) i = PL.read ok (LL s (ends isBlank s i)) (ends isBlank s i) := by
 induction hn : s.size - i generalizing i with
 | zero => rw [ends, dif_neg (by omega)]
 | succ n ih =>
  have h : i < s.size := by omega
  rw [ends, dif_pos h]
  split
  ·rename_i hp
   rw [isBlank_is] at hp
   rw [← ih (i + 1) (by omega), LL_lt h, PL.read_cons, if_pos hp]
  ·rfl
theorem ends_not (p : UInt8 → Bool) (s : ByteArray) (i : Nat) (h : ends p s i < s.size) : p (s[ends p s i]'h) = false := by
 induction hn : s.size - i generalizing i with
 | zero =>
  have e : ends p s i = i := by rw [ends, dif_neg (by omega)]
  omega
 | succ n ih =>
  have hi : i < s.size := by omega
  by_cases hp : p (s[i]'hi) = true
  ·have e : ends p s i = ends p s (i + 1) := by rw [ends, dif_pos hi, if_pos hp]
   have h2 := ih (i + 1) (by rw [← e]; exact h) (by omega)
   simpa only [e] using h2
  ·have e : ends p s i = i := by rw [ends, dif_pos hi, if_neg hp]
   simpa only [e, Bool.not_eq_true] using hp
theorem indexByte_is (l : List UInt8) (c : UInt8) : Lib.indexByte l c = match l.idxOf? c with
  | some k => (k : Int)
  | none => -1 := by
 induction l with
 | nil => rfl
 | cons b l ih =>
  unfold Lib.indexByte
  rw [List.idxOf?_cons]
  cases hb : b == c
  ·simp only [Bool.false_eq_true, if_false]
   rw [ih]
   cases l.idxOf? c with
   | none => rfl
   | some k =>
    have : ((k : Int) == -1) = false := beq_eq_false_iff_ne.2 (by omega)
    simp only [Option.map_some, this]
    simp
  ·simp
theorem extract_end (s : ByteArray) (k : Nat) : (s.extract k s.size).data.toList = LL s k := by
 unfold LL
 simp only [ByteArray.data_extract, Array.toList_extract, List.extract_eq_take_drop]
 exact List.take_of_length_le (by simp)
theorem read_end {k : Nat} (h : k = s.size) : PL.read ok (LL s k) k = .ok [⟨0, [], k⟩] := by rw [LL_end (by omega)]; rfl
theorem read_note {k n : Nat} (h : k < s.size) (hb : isBlank (s[k]'h) = false) (hc : s[k]'h = 34) (hn : (LL s (k + 1)).idxOf? 34 = some n) : PL.read ok (LL s k) k = PL.read ok (LL s (k + n + 2)) (k + n + 2) := by
 rw [isBlank_is] at hb
 rw [LL_lt h, PL.read_cons, if_neg (not_b hb), if_pos hc, hn]
 simp only
 rw [LL_drop, show k + 1 + (n + 1) = k + n + 2 by omega]
theorem read_noteBad {k : Nat} (h : k < s.size) (hb : isBlank (s[k]'h) = false) (hc : s[k]'h = 34) (hn : (LL s (k + 1)).idxOf? 34 = none) : PL.read ok (LL s k) k = .error k := by
 rw [isBlank_is] at hb
 rw [LL_lt h, PL.read_cons, if_neg (not_b hb), if_pos hc, hn]
theorem read_word {k : Nat} {x : Nat × List UInt8 × Nat} (h : k < s.size) (hb : isBlank (s[k]'h) = false) (hc : ¬ s[k]'h = 34) (hx : PL.wordL ok (LL s k) = some x) : PL.read ok (LL s k) k = (PL.read ok (LL s (k + x.2.2)) (k + x.2.2)).map (fun ts => ⟨x.1, x.2.1, k⟩ :: ts) := by
 rw [isBlank_is] at hb
 rw [LL_lt h] at hx ⊢
 rw [PL.read_cons, if_neg (not_b hb), if_neg hc, hx]
 simp only
 rw [← LL_lt h, LL_drop]
theorem read_wordBad {k : Nat} (h : k < s.size) (hb : isBlank (s[k]'h) = false) (hc : ¬ s[k]'h = 34) (hx : PL.wordL ok (LL s k) = none) : PL.read ok (LL s k) k = .error k := by
 rw [isBlank_is] at hb
 rw [LL_lt h] at hx ⊢
 rw [PL.read_cons, if_neg (not_b hb), if_neg hc, hx]
theorem map_snoc {e : Except Nat (List PL.Tk)} {acc : List PL.Tk} {t : PL.Tk} : (e.map (fun ts => t :: ts)).map (fun ts => acc ++ ts) = e.map (fun ts => (acc ++ [t]) ++ ts) := by
 cases e <;> simp [Except.map]
end
def fr0 (s : ByteArray) (g : Nat) (v : Value) (u : Nat → Value) : Act := { tmps := List.toArray (.string s :: u 1 :: u 2 :: u 3 :: u 4 :: .pointer (some ⟨g, 0, none⟩) :: v :: u 7 :: u 8 :: u 9 :: u 10 :: u 11 :: u 12 :: u 13 :: u 14 :: u 15 :: u 16 :: u 17 :: u 18 :: u 19 :: u 20 :: u 21 :: u 22 :: u 23 :: u 24 :: u 25 :: u 26 :: u 27 :: u 28 :: u 29 :: u 30 :: u 31 :: u 32 :: u 33 :: u 34 :: u 35 :: u 36 :: u 37 :: u 38 :: u 39 :: u 40 :: u 41 :: u 42 :: u 43 :: u 44 :: u 45 :: u 46 :: u 47 :: u 48 :: u 49 :: u 50 :: u 51 :: u 52 :: u 53 :: u 54 :: u 55 :: u 56 :: u 57 :: u 58 :: u 59 :: u 60 :: u 61 :: u 62 :: u 63 :: u 64 :: u 65 :: u 66 :: u 67 :: u 68 :: u 69 :: u 70 :: u 71 :: u 72 :: u 73 :: u 74 :: u 75 :: u 76 :: []), defers := [] }
def fr1 (p : Nat) (u : Nat → Value) : Act := { tmps := List.toArray (u 0 :: u 1 :: u 2 :: u 3 :: u 4 :: u 5 :: u 6 :: .int .i64 (p : Int) :: u 8 :: u 9 :: u 10 :: u 11 :: u 12 :: u 13 :: u 14 :: u 15 :: u 16 :: u 17 :: u 18 :: u 19 :: u 20 :: u 21 :: u 22 :: u 23 :: u 24 :: u 25 :: u 26 :: u 27 :: u 28 :: u 29 :: u 30 :: u 31 :: u 32 :: u 33 :: u 34 :: u 35 :: u 36 :: u 37 :: u 38 :: u 39 :: u 40 :: u 41 :: u 42 :: u 43 :: u 44 :: u 45 :: u 46 :: u 47 :: u 48 :: u 49 :: u 50 :: u 51 :: u 52 :: u 53 :: u 54 :: u 55 :: u 56 :: u 57 :: u 58 :: u 59 :: u 60 :: u 61 :: u 62 :: u 63 :: u 64 :: u 65 :: u 66 :: u 67 :: u 68 :: u 69 :: u 70 :: u 71 :: u 72 :: u 73 :: u 74 :: u 75 :: u 76 :: []), defers := [] }
theorem fr0_of {s : ByteArray} {g : Nat} {v : Value} {a : Act} (h : a = fr0 s g v (fun i => a.tmps.getD i undef)) : ∃ u, a = fr0 s g v u := ⟨_, h⟩
theorem fr1_of {p : Nat} {a : Act} (h : a = fr1 p (fun i => a.tmps.getD i undef)) : ∃ u, a = fr1 p u := ⟨_, h⟩
def AtNext (okN : ByteArray → Bool) (w : World) (g : Nat) (s : ByteArray) (a : Act) (w' : World) : Prop :=
 ∃ (v : Value) (i : Nat) (acc : List PL.Tk), (∃ u, a = fr0 s g v u) ∧
  Aside0 (IsS37 w w' g s (i : Int) ∧ Below w.heap.size w w' ∧ Kd.R k28 64 w' w.heap.size (fun q => q ≠ g) v (acc.map tk)) ∧
  Aside0 (i ≤ s.size ∧ acc.length ≤ i ∧ PL.read (okL okN) s.data.toList 0 = (PL.read (okL okN) (LL s i) i).map (fun ts => acc ++ ts))
def AtBad (okN : ByteArray → Bool) (w : World) (s : ByteArray) (a : Act) (w' : World) : Prop :=
 ∃ p : Nat, (∃ u, a = fr1 p u) ∧ Aside0 (Below w.heap.size w w') ∧ Aside0 (PL.read (okL okN) s.data.toList 0 = .error p)
theorem lex_Read.big {okN : ByteArray → Bool} (s : ByteArray) (hs : ¬ s.size ≤ 4096) (w : World) :
  Calls Try.prog 18 #[.string s] w fun e w' => ∃ v0_ : Value, e = .returned (.tuple #[v0_, .int .i64 (readS okN s).2.1, .int .i64 (readS okN s).2.2]) ∧ Kd.R k28 64 w' w.heap.size (fun _ => True) v0_ (readS okN s).1 ∧ Below w.heap.size w w' := by
 have c0 : decide ((4096 : Int) < (s.size : Int)) = true := decide_eq_true (by omega)
 have e : readS okN s = ([], 0, 3) := by unfold readS; rw [if_neg hs]
 rw [e]
 go_enter Try.func18, Try.ntmps18
 go_wp2
 refine wp_scope_two 0 1 (fun _ _ => False) (fun _ _ => False) (fun _ _ => 0) rfl rfl ?_ (fun _ _ h => h.elim) (fun _ _ h => h.elim)
 intro _
 go_wp2
 (try simp only [twoJumps])
 go_ret3
 exact ⟨_, rfl, Kd.R_nil _ _ _ _ _, Below.refl _ _⟩
theorem lex_Read.small {okN : ByteArray → Bool} (hR : ReadsNumber okN) (s : ByteArray) (hs : s.size ≤ 4096) (w : World) :
  Calls Try.prog 18 #[.string s] w fun e w' => ∃ v0_ : Value, e = .returned (.tuple #[v0_, .int .i64 (readS okN s).2.1, .int .i64 (readS okN s).2.2]) ∧ Kd.R k28 64 w' w.heap.size (fun _ => True) v0_ (readS okN s).1 ∧ Below w.heap.size w w' := by
 have y : decide ((4096 : Int) < (s.size : Int)) = false := decide_eq_false (by omega)
 obtain ⟨g, hg⟩ : ∃ g, g = w.heap.size := ⟨_, rfl⟩
 have hs2 : s.size ≤ 140737488351232 := by omega
 have HG := Aside0.mk hg
 clear hg
 go_enter Try.func18, Try.ntmps18
 go_wp2
 refine wp_scope_two 0 1 (AtNext okN w g s) (AtBad okN w s) (fun _ w' => s.size - atOf w' g) rfl rfl ?_ ?_ ?_
 ·intro hround
  go_wp2_with (first | ((with_reducible refine gate_dst (N := 16) rfl ?_); (try (refine gate_guard (by rfl) ?_; dsimp only)); refine box_event ?hg (N := 16) ?hd (cs := #[.string s, .int .i64 0]) (t := 77) ?hr ?_; (case hd => rfl); (case hg => rfl); (case hr => first | (go_simp; done) | (go_simp; rfl)); intro g1 hg0 wa c hba; have hg1 := Aside0.mk hg0; clear hg0))
  have hI0 := Aside0.mk (show IsS37 w wa g s ((0 : Nat) : Int) from ⟨by rw [HG.out, ← hg1.out]; exact c, by rw [HG.out]; exact Nat.le_refl _⟩)
  have hge := HG.out
  have hge1 := hg1.out
  subst hge1
  obtain rfl := hge
  rename_i K hK
  refine wp_label (hK _ _ (hround _ _ ⟨_, 0, [], fr0_of rfl, ⟨hI0.out, hba, Kd.R_nil _ _ _ _ _⟩, ⟨Nat.zero_le _, Nat.le_refl _, ?_⟩⟩))
  rw [LL_zero]
  cases PL.read (okL okN) s.data.toList 0 <;> rfl
 ·rintro a' w' ⟨v, i, acc, ⟨u, rfl⟩, ⟨hI, hB, hRw⟩, ⟨hi, hal, hsp⟩⟩
  unfold fr0
  obtain ⟨k, hk⟩ : ∃ k, ends isBlank s i = k := ⟨_, rfl⟩
  have hk0 : i ≤ k := hk ▸ ends_ge isBlank s i
  have hk1 : k ≤ s.size := hk ▸ ends_le isBlank s i hi
  have hnb : ∀ h : k < s.size, isBlank (s[k]'h) = false := by subst hk; exact fun h => ends_not isBlank s i h
  have hsp2 := Aside0.mk (show PL.read (okL okN) s.data.toList 0 = (PL.read (okL okN) (LL s k) k).map (fun ts => acc ++ ts) from by rw [hsp, read_skip i, hk])
  replace hk := Aside0.mk hk
  replace hnb := Aside0.mk hnb
  have hat := Aside0.mk (atOf_is hI)
  clear hsp
  have hu28 := Try.underlying64
  rcases Nat.lt_or_ge k s.size with hlt | hge
  ·have ck : ((k : Int) == (s.size : Int)) = false := beq_eq_false_iff_ne.2 (by omega)
   have z := eq_true (show (0 : Int) ≤ (k : Int) from by omega)
   have A := eq_true (show (k : Int) < (s.size : Int) from by omega)
   by_cases hc : s[k]'hlt = 34
   ·have hcb : (((s[k]'hlt).toNat : Int) == 34) = true := by rw [hc]; rfl
    have hbk : (0 : Int) ≤ (k : Int) + 1 ∧ (k : Int) + 1 ≤ 4611686018427387904 := by omega
    have hle1 : k + 1 ≤ s.size := hlt
    have hix := indexByte_is (LL s (k + 1)) 34
    cases hn : (LL s (k + 1)).idxOf? 34 with
    | none =>
     rw [hn] at hix
     have hin := Aside0.mk ((congrArg (fun l => Lib.indexByte l (34 : Int).toNat.toUInt8) (extract_end s (k + 1))).trans hix)
     have hcase := Aside0.mk (read_noteBad (ok := okL okN) hlt (hnb.out hlt) hc hn)
     clear hix hn hc
     have hwk := wrap_in ((k : Int) + 1) hbk.1 hbk.2
     have hwk1 := hwk.1
     have hwk2 := hwk.2
     go_wp2_with (first | (go_at_call 28; refine (lex_skip.calls tester_blank g s i hi hs2 w _ hI hB).mono ?_; rintro e m ⟨rfl, hI1, hB1, hK1⟩; rw [hk.out] at hI1; have hR1 := Aside0.mk (Kd.R_keep hRw hK1 (fun _ h => h)); have hc1 := cellS37_1 hI1.1; have hf1 := blk_frozen hI1.1 1) | (go_at_call 31; refine (Try.strings_IndexByte (s.extract (k + 1) s.size) 34 _).mono ?_; rintro e a ⟨he, rfl⟩; rw [hin.out] at he; subst he))
     go_step3
     exact Or.inr ⟨rfl, k, fr1_of rfl, ⟨hB1⟩, ⟨by rw [hsp2.out, hcase.out]; rfl⟩⟩
    | some n =>
     rw [hn] at hix
     have hin := Aside0.mk ((congrArg (fun l => Lib.indexByte l (34 : Int).toNat.toUInt8) (extract_end s (k + 1))).trans hix)
     have hcase := Aside0.mk (read_note (ok := okL okN) hlt (hnb.out hlt) hc hn)
     have hnl := PL.idxOf_lt hn
     rw [LL_len] at hnl
     clear hix hn hc
     have hn0 : decide ((n : Int) < 0) = false := decide_eq_false (by omega)
     have hbn : (0 : Int) ≤ (n : Int) + 2 ∧ (n : Int) + 2 ≤ 4611686018427387904 := by omega
     have hbm : (0 : Int) ≤ (k : Int) + ((n : Int) + 2) ∧ (k : Int) + ((n : Int) + 2) ≤ 4611686018427387904 := by omega
     have hfa := Aside0.mk (show i < k + n + 2 ∧ k + n + 2 ≤ s.size ∧ acc.length ≤ k + n + 2 ∧ s.size - (k + n + 2) < s.size - i from by omega)
     have hcs := Aside0.mk (show (k : Int) + ((n : Int) + 2) = ((k + n + 2 : Nat) : Int) from by omega)
     have hwk := wrap_in ((k : Int) + 1) hbk.1 hbk.2
     have hwk1 := hwk.1
     have hwk2 := hwk.2
     have hwn := Aside0.mk (wrap_in ((n : Int) + 2) hbn.1 hbn.2)
     have hwm := Aside0.mk (wrap_in ((k : Int) + ((n : Int) + 2)) hbm.1 hbm.2)
     clear hwk hbn hbm hbk
     go_wp2_with (first | (go_at_call 28; refine (lex_skip.calls tester_blank g s i hi hs2 w _ hI hB).mono ?_; rintro e m ⟨rfl, hI1, hB1, hK1⟩; rw [hk.out] at hI1; have hR1 := Aside0.mk (Kd.R_keep hRw hK1 (fun _ h => h)); have hc1 := cellS37_1 hI1.1; have hf1 := blk_frozen hI1.1 1) | (go_at_call 31; refine (Try.strings_IndexByte (s.extract (k + 1) s.size) 34 _).mono ?_; rintro e a ⟨he, rfl⟩; rw [hin.out] at he; subst he; clear hwk1 hwk2; have hwn1 := hwn.out.1; have hwn2 := hwn.out.2; have hwm1 := hwm.out.1; have hwm2 := hwm.out.2; clear hwn hwm))
     go_step3
     have hI2 := hI1.set_1 ((k : Int) + ((n : Int) + 2))
     rw [hcs.out] at hI2 ⊢
     have hgl := hI1.ge
     refine Or.inl ⟨rfl, ⟨v, k + n + 2, acc, fr0_of rfl, ⟨hI2, below_set hB1 hgl, Kd.R_far hR1.out (fun q hq => hq) _⟩, ⟨hfa.out.2.1, hfa.out.2.2.1, by rw [hsp2.out, hcase.out]⟩⟩, ?_⟩
     show s.size - atOf _ g < s.size - atOf w' g
     rw [atOf_is hI2, hat.out]
     exact hfa.out.2.2.2
   ·have hcb : (((s[k]'hlt).toNat : Int) == 34) = false := beq_eq_false_iff_ne.2 fun h => hc (UInt8.toNat_inj.1 (by simpa using (by omega : (s[k]'hlt).toNat = 34)))
    cases hx : PL.wordL (okL okN) (LL s k) with
    | none =>
     have hfin := Aside0.mk (show readS okN s = ([], (k : Int), 20) from by
      unfold readS
      rw [if_pos hs, hsp2.out, read_wordBad hlt (hnb.out hlt) hc hx]
      rfl)
     replace hx := Aside0.mk hx
     clear hc
     go_wp2_with (first | (go_at_call 28; refine (lex_skip.calls tester_blank g s i hi hs2 w _ hI hB).mono ?_; rintro e m ⟨rfl, hI1, hB1, hK1⟩; rw [hk.out] at hI1; have hR1 := Aside0.mk (Kd.R_keep hRw hK1 (fun _ h => h)); have hc1 := cellS37_1 hI1.1; have hf1 := blk_frozen hI1.1 1) | (go_at_call 32; refine (lex_word.calls hR g s k hlt hs2 w _ hI1 hB1).mono ?_; rintro e a ⟨kd, tx, wok, j, rfl, hW, hI2, hB2, hK2⟩; unfold WordIs at hW; rw [hx.out] at hW; obtain ⟨rfl, hj⟩ := hW; have hR2 := Aside0.mk (Kd.R_keep hR1.out hK2 (fun _ h => h)); clear hc1 hf1) | ((with_reducible refine gate_dst (N := 9) rfl ?_); (try (refine gate_guard (by rfl) ?_; dsimp only)); refine box_event ?hg (N := 9) ?hd (cs := #[.int .i64 0, .string ⟨#[]⟩, .int .i64 0]) (t := 64) ?hr ?_; (case hd => rfl); (case hg => rfl); (case hr => first | (go_simp; done) | (go_simp; rfl)); intro b9 hg9 wa9 hx9 ha9; replace hg9 := Aside0.mk hg9; have hk90 := (blk_cell hx9 0).trans rfl; have hk91 := (blk_cell hx9 1).trans rfl; have hk92 := (blk_cell hx9 2).trans rfl; have hf90 := blk_frozen hx9 0; have hf91 := blk_frozen hx9 1; have hf92 := blk_frozen hx9 2))
     go_step3
     go_wp2
     (try simp only [twoJumps])
     go_ret3
     rw [hfin.out]
     exact ⟨_, rfl, Kd.R_nil _ _ _ _ _, by
      have hge9 : a.heap.size ≤ b9 := Nat.le_of_eq hg9.out.symm
      exact bS0 hB2 (below_set (below_set (below_set ha9 hge9) hge9) hge9)⟩
    | some x =>
     have hcase := Aside0.mk (read_word (ok := okL okN) hlt (hnb.out hlt) hc hx)
     have hxl := Aside0.mk (PL.wordL_le hx)
     replace hx := Aside0.mk hx
     clear hc
     go_wp2_with (first | (go_at_call 28; refine (lex_skip.calls tester_blank g s i hi hs2 w _ hI hB).mono ?_; rintro e m ⟨rfl, hI1, hB1, hK1⟩; rw [hk.out] at hI1; have hR1 := Aside0.mk (Kd.R_keep hRw hK1 (fun _ h => h)); have hc1 := cellS37_1 hI1.1; have hf1 := blk_frozen hI1.1 1) | (go_at_call 32; refine (lex_word.calls hR g s k hlt hs2 w _ hI1 hB1).mono ?_; rintro e a ⟨kd, tx, wok, j, rfl, hW, hI2, hB2, hK2⟩; unfold WordIs at hW; rw [hx.out] at hW; obtain ⟨⟨rfl, rfl, rfl, rfl⟩, hj⟩ := hW; have hR2 := Aside0.mk (Kd.R_keep hR1.out hK2 (fun _ h => h)); clear hc1 hf1) | ((with_reducible refine gate_dst (N := 9) rfl ?_); (try (refine gate_guard (by rfl) ?_; dsimp only)); refine box_event ?hg (N := 9) ?hd (cs := #[.int .i64 0, .string ⟨#[]⟩, .int .i64 0]) (t := 64) ?hr ?_; (case hd => rfl); (case hg => rfl); (case hr => first | (go_simp; done) | (go_simp; rfl)); intro b9 hg9 wa9 hx9 ha9; replace hg9 := Aside0.mk hg9; have hk90 := (blk_cell hx9 0).trans rfl; have hk91 := (blk_cell hx9 1).trans rfl; have hk92 := (blk_cell hx9 2).trans rfl; have hf90 := blk_frozen hx9 0; have hf91 := blk_frozen hx9 1; have hf92 := blk_frozen hx9 2) | ((with_reducible refine gate_builtin (b := .append) (xs := #[.tmp 72, .tmp 74]) rfl ?_); (try (refine gate_guard (by rfl) ?_; dsimp only)); at_builtin; go_loud (have hge9 : a.heap.size ≤ b9 := Nat.le_of_eq hg9.out.symm; have hBW := Aside0.mk (show Below a.heap.size a (((wa9.setCell ⟨b9, 0, none⟩ (.int .i64 x.1)).setCell ⟨b9, 1, none⟩ (.string ⟨x.2.1.toArray⟩)).setCell ⟨b9, 2, none⟩ (.int .i64 k)) from below_set (below_set (below_set ha9 hge9) hge9) hge9); refine Kd.R_append k28 (w0 := w) w.heap.size rfl (.tmp 72) (.tmp 74) 55 64 (.agg #[.int .i64 0, .string ⟨#[]⟩, .int .i64 0]) 32 rfl Try.underlying55 info64 rfl (by decide) (by omega) v (acc.map tk) (tk ⟨x.1, x.2.1, k⟩) [.int .i64 x.1, .string ⟨x.2.1.toArray⟩, .int .i64 k] (fun q => q ≠ g) (fun _ => False) rfl ?aX ?aP (fun _ hk => hk.elim) ?aF ?aO ?aB ?aS ?aL ?_; (case aX => (rw [show (((wa9.setCell ⟨b9, 0, none⟩ (.int .i64 x.1)).setCell ⟨b9, 1, none⟩ (.string ⟨x.2.1.toArray⟩)).setCell ⟨b9, 2, none⟩ (.int .i64 k)).heap.size = wa9.heap.size from by simp [World.setCell]]; rfl)); (case aP => exact k28_mkM _ _ _ (tk ⟨x.1, x.2.1, k⟩)); (case aB => exact bS0 hB2 hBW.out); (case aF => exact (fun q hq => by have := (hI2.below hBW.out).lt; omega)); (case aO => exact Kd.R_below hR2.out hBW.out); (case aS => exact Below.size (bS0 hB2 hBW.out)); (case aL => rw [List.length_map]; omega); intro o r ho d hgr hat_; replace ho := Aside0.mk ho; replace d := Aside0.mk d; have hI9 := Aside0.mk (IsS37.grown (hI2.below hBW.out) hgr (fun h => hR2.out.1 g h.symm rfl)); clear hgr hat_)))
     go_step3
     refine Or.inl ⟨rfl, ⟨o, k + x.2.2, acc ++ [⟨x.1, x.2.1, k⟩], fr0_of rfl, ⟨hI9.out, d.out, by rw [List.map_append]; exact ho.out⟩, ⟨hj, by have := hxl.out.1; rw [List.length_append, List.length_singleton]; omega, by rw [hsp2.out, hcase.out, map_snoc]⟩⟩, ?_⟩
     show s.size - atOf _ g < s.size - atOf w' g
     rw [atOf_is hI9.out, hat.out]
     have := hxl.out.1
     omega
  ·have ck : ((k : Int) == (s.size : Int)) = true := beq_iff_eq.2 (by omega)
   have hfin := Aside0.mk (show readS okN s = (acc.map tk ++ [⟨0, ⟨#[]⟩, (k : Int)⟩], 0, 0) from by
    unfold readS
    rw [if_pos hs, hsp2.out, read_end (by omega)]
    show ((acc ++ [(⟨0, [], k⟩ : PL.Tk)]).map tk, (0 : Int), (0 : Int)) = _
    rw [List.map_append]
    rfl)
   go_wp2_with (first | (go_at_call 28; refine (lex_skip.calls tester_blank g s i hi hs2 w _ hI hB).mono ?_; rintro e m ⟨rfl, hI1, hB1, hK1⟩; rw [hk.out] at hI1; have hR1 := Aside0.mk (Kd.R_keep hRw hK1 (fun _ h => h)); have hc1 := cellS37_1 hI1.1; have hf1 := blk_frozen hI1.1 1) | ((with_reducible refine gate_builtin (b := .append) (xs := #[.tmp 31, .tmp 37]) rfl ?_); (try (refine gate_guard (by rfl) ?_; dsimp only)); at_builtin; refine Kd.R_append k28 (w0 := w) w.heap.size rfl (.tmp 31) (.tmp 37) 55 64 (.agg #[.int .i64 0, .string ⟨#[]⟩, .int .i64 0]) 32 rfl Try.underlying55 info64 rfl (by decide) (by omega) v (acc.map tk) ⟨0, ⟨#[]⟩, (k : Int)⟩ [.int .i64 0, .string ⟨#[]⟩, .int .i64 (k : Int)] (fun q => q ≠ g) (fun _ => False) rfl rfl ?aP (fun _ hk => hk.elim) ?aF ?aO ?aB ?aS ?aL ?_; (case aP => exact k28_mkM _ _ _ ⟨0, ⟨#[]⟩, (k : Int)⟩); (case aB => exact hB1); (case aF => exact (fun q hq => by have := hI1.lt; omega)); (case aO => exact hR1.out); (case aS => exact Below.size hB1); (case aL => rw [List.length_map]; omega); intro o r ho d hg_ hat_))
   (try simp only [twoJumps])
   go_ret3
   rw [hfin.out]
   exact ⟨_, rfl, Kd.R_mono ho (fun _ _ => trivial), d⟩
 ·rintro a' w' ⟨p, ⟨u, rfl⟩, ⟨hB⟩, ⟨hsp⟩⟩
  have e : readS okN s = ([], (p : Int), 20) := by unfold readS; rw [if_pos hs, hsp]
  unfold fr1
  go_wp2
  (try simp only [twoJumps])
  go_ret3
  rw [e]
  exact ⟨_, rfl, Kd.R_nil _ _ _ _ _, hB⟩
end Go.Proofs.Ytpodpmjlkbbkoaa.P
