import Derived.Test.YtpodpmjlkbbkoaaQCL6
set_option linter.all false
set_option maxHeartbeats 16000000
set_option maxRecDepth 100000
namespace Go.Proofs.Ytpodpmjlkbbkoaa.P
open Go.RowKit Go.Proofs.YtpodpmjlkbbkoaaW.PrintWords Go.Proofs.YtpodpmjlkbbkoaaW.PrintLast Go.Proofs.YtpodpmjlkbbkoaaW.PrintMore
theorem results_ct3 {P : Program} {fn : Func} {p u : Tmp} {ty : TypeId} (h : fn.results = #[.cell p ty, .tmp u]) (tmps : Array Value) (w : World) (g : Nat) (t : TypeId) (cs : Array Value) (fr : Nat × Nat) (d : TypeDesc)
  (hp : tmps.getD p undef = .pointer (some ⟨g, 0, none⟩)) (hg : w.heap[g]? = some (.cells cs t fr))
  (hu : P.underlying ty = some d) (hd : (match d with | .struct _ | .array _ _ => true | _ => false) = true) (hi : (P.info? ty).map (·.size) = some cs.size) :
  (results fn tmps).run P w = .ok (.tuple #[.agg cs, tmps.getD u undef]) w := by
 have hp' : tmps[p]?.getD undef = .pointer (some ⟨g, 0, none⟩) := by simpa using hp
 simp [results, h, hp', asAddr, run_loadVar_row w g t ty cs fr d hg hu hd hi]
structure St (w0 w W : World) (g : Nat) (s : ByteArray) (i : Nat) (b2 b4 : Nat) (k : Int) (t : ByteArray) (a : Int) : Prop where
 isS : IsS37 w0 W g s (i : Int)
 bel : Below w0.heap.size w0 W
 keep : KeepBut w W g none
 c2 : W.heap[b2]? = some (.cells #[.int .i64 0, .string ⟨#[]⟩, .int .i64 0] 64 (0, 0))
 c4 : W.heap[b4]? = some (.cells #[.int .i64 k, .string t, .int .i64 a] 64 (0, 0))
 l2 : w.heap.size ≤ b2
 l4 : w.heap.size ≤ b4
 ne : b2 ≠ b4
 lg : g < w.heap.size
 lw : w0.heap.size ≤ w.heap.size
section
variable {w0 w W W' : World} {g : Nat} {s : ByteArray} {i j : Nat} {b2 b4 : Nat} {k a : Int} {t : ByteArray}
theorem St.ne4 (h : St w0 w W g s i b2 b4 k t a) : g ≠ b4 := by have := h.lg; have := h.l4; omega
theorem St.call (h : St w0 w W g s i b2 b4 k t a) (hI : IsS37 w0 W' g s (j : Int)) (hB : Below w0.heap.size w0 W') (hK : KeepBut W W' g none) : St w0 w W' g s j b2 b4 k t a :=
 ⟨hI, hB, h.keep.trans hK (.inl rfl), (hK.2 b2 (blk_lt h.c2) (by have := h.l2; have := h.lg; omega) (by simp)).trans h.c2, (hK.2 b4 (blk_lt h.c4) (by have := h.l4; have := h.lg; omega) (by simp)).trans h.c4, h.l2, h.l4, h.ne, h.lg, h.lw⟩
theorem St.below (h : St w0 w W g s i b2 b4 k t a) (hb : Below W.heap.size W W') : St w0 w W' g s i b2 b4 k t a :=
 h.call (h.isS.below hb) (bS0 h.bel hb) (KeepBut.of_below hb _ _)
theorem St.at1 (h : St w0 w W g s i b2 b4 k t a) : St w0 w (W.setCell ⟨g, 1, none⟩ (.int .i64 ((i : Int) + 1))) g s (i + 1) b2 b4 k t a :=
 h.call (set1 h.isS) (below_set h.bel (IsS37.ge h.isS)) ((KeepBut.refl _ _ _).set_ _ _)
theorem St.at2 (h : St w0 w W g s i b2 b4 k t a) : St w0 w (W.setCell ⟨g, 1, none⟩ (.int .i64 ((i : Int) + 2))) g s (i + 2) b2 b4 k t a :=
 h.call (by have := h.isS.set_1 ((i : Int) + 2); simpa using this) (below_set h.bel (IsS37.ge h.isS)) ((KeepBut.refl _ _ _).set_ _ _)
theorem St.put (h : St w0 w W g s i b2 b4 k t a) (n : Nat) (v : Value) {k' a' : Int} {t' : ByteArray} (hv : (#[.int .i64 k, .string t, .int .i64 a] : Array Value).setIfInBounds n v = #[.int .i64 k', .string t', .int .i64 a']) : St w0 w (W.setCell ⟨b4, n, none⟩ v) g s i b2 b4 k' t' a' := by
 have hlg := h.lg
 have hl4 := h.l4
 have hlw := h.lw
 refine ⟨h.isS.far (by show g ≠ b4; omega) v, below_set h.bel (by omega), keep_far h.keep (by show w.heap.size ≤ b4; omega) v, ?_, ?_, h.l2, h.l4, h.ne, h.lg, h.lw⟩
 ·exact (Below.heap_setCell _ _ _ _ (fun e => h.ne e)).trans h.c2
 ·rw [← hv]
  exact blk_set h.c4 n v
theorem St.kind (h : St w0 w W g s i b2 b4 k t a) (k' : Int) : St w0 w (W.setCell ⟨b4, 0, none⟩ (.int .i64 k')) g s i b2 b4 k' t a := h.put 0 _ rfl
theorem St.text (h : St w0 w W g s i b2 b4 k t a) (t' : ByteArray) : St w0 w (W.setCell ⟨b4, 1, none⟩ (.string t')) g s i b2 b4 k t' a := h.put 1 _ rfl
theorem St.place (h : St w0 w W g s i b2 b4 k t a) (a' : Int) : St w0 w (W.setCell ⟨b4, 2, none⟩ (.int .i64 a')) g s i b2 b4 k t a' := h.put 2 _ rfl
theorem St.drewN (h : St w0 w W g s i b2 b4 k t a) (n : Nat) : St w0 w (W.drewN n) g s i b2 b4 k t a := h.below (pw_below_drewN (Below.refl _ _) n)
theorem St.done (h : St w0 w W g s i b2 b4 k t a) {X : World} (hX : X = ((W.setCell ⟨b2, 0, none⟩ (.int .i64 k)).setCell ⟨b2, 1, none⟩ (.string t)).setCell ⟨b2, 2, none⟩ (.int .i64 a)) :
  X.heap[b2]? = some (.cells #[.int .i64 k, .string t, .int .i64 a] 64 (0, 0)) ∧ IsS37 w0 X g s (i : Int) ∧ Below w0.heap.size w0 X ∧ KeepBut w X g none := by
 have hlg := h.lg
 have hl2 := h.l2
 have hlw := h.lw
 subst hX
 refine ⟨?_, ((h.isS.far (by show g ≠ b2; omega) _).far (by show g ≠ b2; omega) _).far (by show g ≠ b2; omega) _, below_set (below_set (below_set h.bel (by omega)) (by omega)) (by omega), keep_far (keep_far (keep_far h.keep (by show w.heap.size ≤ b2; omega) _) (by show w.heap.size ≤ b2; omega) _) (by show w.heap.size ≤ b2; omega) _⟩
 have e1 := blk_set h.c2 0 (.int .i64 k)
 have e2 := blk_set e1 1 (.string t)
 exact blk_set e2 2 (.int .i64 a)
end
theorem St.start {w0 w wa wb : World} {g : Nat} {s : ByteArray} {i b2 b4 : Nat} (hI : IsS37 w0 w g s (i : Int)) (hB : Below w0.heap.size w0 w) (hlt : g < w.heap.size) (h2 : b2 = w.heap.size) (hx2 : wa.heap[b2]? = some (.cells #[.int .i64 0, .string ⟨#[]⟩, .int .i64 0] 64 (0, 0))) (ha2 : Below w.heap.size w wa)
  (h4 : b4 = wa.heap.size) (hx4 : wb.heap[b4]? = some (.cells #[.int .i64 0, .string ⟨#[]⟩, .int .i64 0] 64 (0, 0))) (ha4 : Below wa.heap.size wa wb) : St w0 w wb g s i b2 b4 0 ⟨#[]⟩ 0 :=
 ⟨(hI.below ha2).below ha4, bS0 (bS0 hB ha2) ha4, (KeepBut.of_below ha2 g none).trans (KeepBut.of_below ha4 g none) (.inl rfl), (ha4.block b2 (blk_lt hx2)).trans hx2, hx4, by omega, by have := ha2.size; omega, by have := blk_lt hx2; omega, hlt, hB.size⟩
theorem lex_word.name (g : Nat) (s : ByteArray) (i : Nat) (hi : i < s.size) (hs : s.size ≤ 140737488351232) (w0 w : World) (hI : IsS37 w0 w g s i) (hB : Below w0.heap.size w0 w) (hl : isLetter (s[i]'hi) = true) (hcl : colonAt s (nameEnd s i) = false) :
  Calls Try.prog 32 #[.pointer (some ⟨g, 0, none⟩)] w fun e w' => e = .returned (.tuple #[.agg #[.int .i64 1, .string (s.extract i (nameEnd s i)), .int .i64 i], .bool true]) ∧ IsS37 w0 w' g s ((nameEnd s i) : Nat) ∧ Below w0.heap.size w0 w' ∧ KeepBut w w' g none := by
 have hn0 := nameEnd_le s i (Nat.le_of_lt hi)
 have hn1 := nameEnd_ge s i
 obtain ⟨k1, hk1⟩ : ∃ k, nameEnd s i = k := ⟨_, rfl⟩
 rw [hk1] at hn0 hn1 hcl
 rw [hk1]
 replace hk1 := Aside0.mk hk1
 have hu28 := Try.underlying64
 have hc1 := cellS37_1 hI.1
 have hlg := Aside0.mk hI.lt
 have hlw := Aside0.mk hB.size
 go_enter Try.func32, Try.ntmps32
 go_wp2_with (first | ((with_reducible refine gate_dst (N := 2) rfl ?_); (try (refine gate_guard (by rfl) ?_; dsimp only)); refine box_event ?hg (N := 2) ?hd (cs := #[.int .i64 0, .string ⟨#[]⟩, .int .i64 0]) (t := 64) ?hr ?_; (case hd => rfl); (case hg => rfl); (case hr => first | (go_simp; done) | (go_simp; rfl)); intro b2 hg2 wa2 hx2 ha2; replace hg2 := Aside0.mk hg2; have hI2 := hI.below ha2; clear hc1; have hc1 := cellS37_1 hI2.1) | ((with_reducible refine gate_dst (N := 4) rfl ?_); (try (refine gate_guard (by rfl) ?_; dsimp only)); refine box_event ?hg (N := 4) ?hd (cs := #[.int .i64 0, .string ⟨#[]⟩, .int .i64 0]) (t := 64) ?hr ?_; (case hd => rfl); (case hg => rfl); (case hr => first | (go_simp; done) | (go_simp; rfl)); intro b4 hg4 wa4 hx4 ha4; replace hg4 := Aside0.mk hg4; have hS4 := St.start hI hB hlg.out hg2.out hx2 ha2 hg4.out hx4 ha4; clear hc1; have hf40 := blk_frozen hx4 0; have hf41 := blk_frozen hx4 1; have hf42 := blk_frozen hx4 2; have hk40 := (blk_cell hx4 0).trans rfl; have hk41 := (blk_cell hx4 1).trans rfl; have hk42 := (blk_cell hx4 2).trans rfl))
 replace hS4 := Aside0.mk (((hS4.kind 0).text ⟨#[]⟩).place i)
 generalize (((wa4.setCell ⟨b4, 0, none⟩ (.int .i64 0)).setCell ⟨b4, 1, none⟩ (.string ⟨#[]⟩)).setCell ⟨b4, 2, none⟩ (.int .i64 i)) = W4 at hS4 ⊢
 clear hf40 hf41 hf42 hk40 hk41 hk42 hg2 hg4 hx2 hx4 ha2 ha4 hI2 hlg hlw wa2 wa4
 have hc0 := cellS37_0 hS4.out.isS.1
 have hc1 := cellS37_1 hS4.out.isS.1
 have a := eq_true (show (0 : Int) ≤ (i : Int) from by omega)
 have b := eq_true (show (i : Int) < (s.size : Int) from by omega)
 go_wp2
 repeat (go_quiet (fail); try go_wp2_with (first | (go_at_call 39; refine (tests_letter (s[i]'hi) _).mono ?_; rintro e c ⟨rfl, hb5⟩; rw [hl]; have hS5 := Aside0.mk ((hS4.out.drewN _).below hb5); clear hb5 hc0 hc1) | (go_at_call 40; refine (lex_name.calls g s i (Nat.le_of_lt hi) hs w0 _ hS5.out.isS hS5.out.bel).mono ?_; rintro e d ⟨rfl, hI_, hB_, hK_⟩; have hS6 := Aside0.mk (hS5.out.call hI_ hB_ hK_); clear hI_ hB_ hK_; rw [hk1.out] at hS6; have hk0 := (blk_cell hS6.out.c4 0).trans rfl; have hf0 := blk_frozen hS6.out.c4 0) | (go_at_call 41; refine (lex_colon.calls g s k1 hn0 hs w0 _ (hS6.out.kind 1).isS (hS6.out.kind 1).bel).mono ?_; rintro e j ⟨rfl, hI_, hB_, hK_⟩; have hS7 := Aside0.mk ((hS6.out.kind 1).call hI_ hB_ hK_); clear hI_ hB_ hK_; rw [hcl]; clear hk0 hf0)))
 refine still_letter 12 (by kernel_rfl) (by kernel_rfl) ?_
 intro wd hwd hbd
 simp only [List.take_succ_cons, List.take_zero, List.drop_succ_cons, List.drop_zero]
 have hSd := Aside0.mk (hS7.out.below hbd)
 have hcd0 := cellS37_0 hSd.out.isS.1
 have hcd1 := cellS37_1 hSd.out.isS.1
 have hk0 := (blk_cell hSd.out.c4 0).trans rfl
 have hk1x := (blk_cell hSd.out.c4 1).trans rfl
 have hk2x := (blk_cell hSd.out.c4 2).trans rfl
 have hf1 := blk_frozen hSd.out.c4 1
 repeat still_step
 refine wpStill_nil ?_
 have hr0 := (blk_cell hSd.out.c2 0).trans rfl
 have hr1 := (blk_cell hSd.out.c2 1).trans rfl
 have hr2 := (blk_cell hSd.out.c2 2).trans rfl
 have hq0 := blk_frozen hSd.out.c2 0
 have hq1 := blk_frozen hSd.out.c2 1
 have hq2 := blk_frozen hSd.out.c2 2
 have hne := hSd.out.ne
 have hne2 := Ne.symm hne
 go_wp2
 have hD := (hSd.out.text (s.extract i k1)).done rfl
 refine bodyPost_ret (results_ct3 rfl _ _ b2 64 _ (0, 0) _ rfl hD.1 hu28 rfl rfl) rfl ?_
 exact ⟨rfl, hD.2.1, hD.2.2.1, hD.2.2.2⟩
theorem lex_word.key (g : Nat) (s : ByteArray) (i : Nat) (hi : i < s.size) (hs : s.size ≤ 140737488351232) (w0 w : World) (hI : IsS37 w0 w g s i) (hB : Below w0.heap.size w0 w) (hl : isLetter (s[i]'hi) = true) (hcl : colonAt s (nameEnd s i) = true) :
  Calls Try.prog 32 #[.pointer (some ⟨g, 0, none⟩)] w fun e w' => e = .returned (.tuple #[.agg #[.int .i64 2, .string (s.extract i (nameEnd s i + 1)), .int .i64 i], .bool true]) ∧ IsS37 w0 w' g s ((nameEnd s i + 1) : Nat) ∧ Below w0.heap.size w0 w' ∧ KeepBut w w' g none := by
 have hn0 := nameEnd_le s i (Nat.le_of_lt hi)
 have hn1 := nameEnd_ge s i
 obtain ⟨k1, hk1⟩ : ∃ k, nameEnd s i = k := ⟨_, rfl⟩
 rw [hk1] at hn0 hn1 hcl
 rw [hk1]
 replace hk1 := Aside0.mk hk1
 have hkl := colonAt_lt hcl
 have hwk := wrap_in ((k1 : Int) + 1) (by omega) (by omega)
 have hwk1 := hwk.1
 have hwk2 := hwk.2
 clear hwk
 obtain ⟨m, hm⟩ : ∃ m, k1 + 1 = m := ⟨_, rfl⟩
 rw [hm]
 have hml : m ≤ s.size := by omega
 have him : i ≤ m := by omega
 replace hm := Aside0.mk hm
 have hu28 := Try.underlying64
 have hc1 := cellS37_1 hI.1
 have hlg := Aside0.mk hI.lt
 have hlw := Aside0.mk hB.size
 go_enter Try.func32, Try.ntmps32
 go_wp2_with (first | ((with_reducible refine gate_dst (N := 2) rfl ?_); (try (refine gate_guard (by rfl) ?_; dsimp only)); refine box_event ?hg (N := 2) ?hd (cs := #[.int .i64 0, .string ⟨#[]⟩, .int .i64 0]) (t := 64) ?hr ?_; (case hd => rfl); (case hg => rfl); (case hr => first | (go_simp; done) | (go_simp; rfl)); intro b2 hg2 wa2 hx2 ha2; replace hg2 := Aside0.mk hg2; have hI2 := hI.below ha2; clear hc1; have hc1 := cellS37_1 hI2.1) | ((with_reducible refine gate_dst (N := 4) rfl ?_); (try (refine gate_guard (by rfl) ?_; dsimp only)); refine box_event ?hg (N := 4) ?hd (cs := #[.int .i64 0, .string ⟨#[]⟩, .int .i64 0]) (t := 64) ?hr ?_; (case hd => rfl); (case hg => rfl); (case hr => first | (go_simp; done) | (go_simp; rfl)); intro b4 hg4 wa4 hx4 ha4; replace hg4 := Aside0.mk hg4; have hS4 := St.start hI hB hlg.out hg2.out hx2 ha2 hg4.out hx4 ha4; clear hc1; have hf40 := blk_frozen hx4 0; have hf41 := blk_frozen hx4 1; have hf42 := blk_frozen hx4 2; have hk40 := (blk_cell hx4 0).trans rfl; have hk41 := (blk_cell hx4 1).trans rfl; have hk42 := (blk_cell hx4 2).trans rfl))
 replace hS4 := Aside0.mk (((hS4.kind 0).text ⟨#[]⟩).place i)
 generalize (((wa4.setCell ⟨b4, 0, none⟩ (.int .i64 0)).setCell ⟨b4, 1, none⟩ (.string ⟨#[]⟩)).setCell ⟨b4, 2, none⟩ (.int .i64 i)) = W4 at hS4 ⊢
 clear hf40 hf41 hf42 hk40 hk41 hk42 hg2 hg4 hx2 hx4 ha2 ha4 hI2 hlg hlw wa2 wa4
 have hc0 := cellS37_0 hS4.out.isS.1
 have hc1 := cellS37_1 hS4.out.isS.1
 have a := eq_true (show (0 : Int) ≤ (i : Int) from by omega)
 have b := eq_true (show (i : Int) < (s.size : Int) from by omega)
 go_wp2
 repeat (go_quiet (fail); try go_wp2_with (first | (go_at_call 39; refine (tests_letter (s[i]'hi) _).mono ?_; rintro e c ⟨rfl, hb5⟩; rw [hl]; have hS5 := Aside0.mk ((hS4.out.drewN _).below hb5); clear hb5 hc0 hc1) | (go_at_call 40; refine (lex_name.calls g s i (Nat.le_of_lt hi) hs w0 _ hS5.out.isS hS5.out.bel).mono ?_; rintro e d ⟨rfl, hI_, hB_, hK_⟩; have hS6 := Aside0.mk (hS5.out.call hI_ hB_ hK_); clear hI_ hB_ hK_; rw [hk1.out] at hS6; have hk0 := (blk_cell hS6.out.c4 0).trans rfl; have hf0 := blk_frozen hS6.out.c4 0) | (go_at_call 41; refine (lex_colon.calls g s k1 hn0 hs w0 _ (hS6.out.kind 1).isS (hS6.out.kind 1).bel).mono ?_; rintro e j ⟨rfl, hI_, hB_, hK_⟩; have hS7 := Aside0.mk ((hS6.out.kind 1).call hI_ hB_ hK_); clear hI_ hB_ hK_; rw [hcl]; clear hk0 hf0; have hk0 := (blk_cell hS7.out.c4 0).trans rfl; have hf0 := blk_frozen hS7.out.c4 0; have hcg := cellS37_1 hS7.out.isS.1; have hfg := blk_frozen hS7.out.isS.1 1; have hgn := hS7.out.ne4; have hgn2 := Ne.symm hgn)))
 have hSX := Aside0.mk ((hS7.out.kind 2).at1)
 rw [hm.out] at hSX
 clear hk0 hf0 hcg hfg hgn hgn2
 refine still_letter 12 (by kernel_rfl) (by kernel_rfl) ?_
 intro wd hwd hbd
 simp only [List.take_succ_cons, List.take_zero, List.drop_succ_cons, List.drop_zero]
 have hSd := Aside0.mk (hSX.out.below hbd)
 have hcd0 := cellS37_0 hSd.out.isS.1
 have hcd1 := cellS37_1 hSd.out.isS.1
 have hk0 := (blk_cell hSd.out.c4 0).trans rfl
 have hk1x := (blk_cell hSd.out.c4 1).trans rfl
 have hk2x := (blk_cell hSd.out.c4 2).trans rfl
 have hf1 := blk_frozen hSd.out.c4 1
 repeat still_step
 refine wpStill_nil ?_
 have hr0 := (blk_cell hSd.out.c2 0).trans rfl
 have hr1 := (blk_cell hSd.out.c2 1).trans rfl
 have hr2 := (blk_cell hSd.out.c2 2).trans rfl
 have hq0 := blk_frozen hSd.out.c2 0
 have hq1 := blk_frozen hSd.out.c2 1
 have hq2 := blk_frozen hSd.out.c2 2
 have hne := hSd.out.ne
 have hne2 := Ne.symm hne
 go_wp2
 have hD := (hSd.out.text (s.extract i m)).done rfl
 refine bodyPost_ret (results_ct3 rfl _ _ b2 64 _ (0, 0) _ rfl hD.1 hu28 rfl rfl) rfl ?_
 exact ⟨rfl, hD.2.1, hD.2.2.1, hD.2.2.2⟩
theorem lex_word.list (g : Nat) (s : ByteArray) (i : Nat) (hi : i < s.size) (hs : s.size ≤ 140737488351232) (w0 w : World) (hI : IsS37 w0 w g s i) (hB : Below w0.heap.size w0 w) (hl : isLetter (s[i]'hi) = false) (hd : isDigit (s[i]'hi) = false) (hc : s[i]'hi = 35) (hp : byteAt s (i + 1) = 40) :
  Calls Try.prog 32 #[.pointer (some ⟨g, 0, none⟩)] w fun e w' => e = .returned (.tuple #[.agg #[.int .i64 17, .string (s.extract i (i + 2)), .int .i64 i], .bool true]) ∧ IsS37 w0 w' g s ((i + 2) : Nat) ∧ Below w0.heap.size w0 w' ∧ KeepBut w w' g none := by
 have hb35 : (((s[i]'hi).toNat : Int) == 35) = true := by rw [hc]; rfl
 have hb39 : (((s[i]'hi).toNat : Int) == 39) = false := by rw [hc]; rfl
 have hlt2 : i + 1 < s.size := by unfold byteAt at hp; split at hp; assumption; cases hp
 have hp1 : (byteAt s (i + 1) == 40) = true := by rw [hp]; rfl
 replace hc := Aside0.mk hc
 replace hp := Aside0.mk hp
 obtain ⟨m, hm⟩ : ∃ m, i + 2 = m := ⟨_, rfl⟩
 rw [hm]
 have hml : m ≤ s.size := by omega
 have him : i ≤ m := by omega
 have hwk := wrap_in ((i : Int) + 2) (by omega) (by omega)
 have hwk1 := hwk.1
 have hwk2 := hwk.2
 clear hwk
 replace hm := Aside0.mk hm
 have hu28 := Try.underlying64
 have hc1 := cellS37_1 hI.1
 have hlg := Aside0.mk hI.lt
 have hlw := Aside0.mk hB.size
 go_enter Try.func32, Try.ntmps32
 go_wp2_with (first | ((with_reducible refine gate_dst (N := 2) rfl ?_); (try (refine gate_guard (by rfl) ?_; dsimp only)); refine box_event ?hg (N := 2) ?hd (cs := #[.int .i64 0, .string ⟨#[]⟩, .int .i64 0]) (t := 64) ?hr ?_; (case hd => rfl); (case hg => rfl); (case hr => first | (go_simp; done) | (go_simp; rfl)); intro b2 hg2 wa2 hx2 ha2; replace hg2 := Aside0.mk hg2; have hI2 := hI.below ha2; clear hc1; have hc1 := cellS37_1 hI2.1) | ((with_reducible refine gate_dst (N := 4) rfl ?_); (try (refine gate_guard (by rfl) ?_; dsimp only)); refine box_event ?hg (N := 4) ?hd (cs := #[.int .i64 0, .string ⟨#[]⟩, .int .i64 0]) (t := 64) ?hr ?_; (case hd => rfl); (case hg => rfl); (case hr => first | (go_simp; done) | (go_simp; rfl)); intro b4 hg4 wa4 hx4 ha4; replace hg4 := Aside0.mk hg4; have hS4 := St.start hI hB hlg.out hg2.out hx2 ha2 hg4.out hx4 ha4; clear hc1; have hf40 := blk_frozen hx4 0; have hf41 := blk_frozen hx4 1; have hf42 := blk_frozen hx4 2; have hk40 := (blk_cell hx4 0).trans rfl; have hk41 := (blk_cell hx4 1).trans rfl; have hk42 := (blk_cell hx4 2).trans rfl))
 replace hS4 := Aside0.mk (((hS4.kind 0).text ⟨#[]⟩).place i)
 generalize (((wa4.setCell ⟨b4, 0, none⟩ (.int .i64 0)).setCell ⟨b4, 1, none⟩ (.string ⟨#[]⟩)).setCell ⟨b4, 2, none⟩ (.int .i64 i)) = W4 at hS4 ⊢
 clear hf40 hf41 hf42 hk40 hk41 hk42 hg2 hg4 hx2 hx4 ha2 ha4 hI2 hlg hlw wa2 wa4
 have hc0 := cellS37_0 hS4.out.isS.1
 have hc1 := cellS37_1 hS4.out.isS.1
 have a := eq_true (show (0 : Int) ≤ (i : Int) from by omega)
 have b := eq_true (show (i : Int) < (s.size : Int) from by omega)
 go_wp2
 repeat (go_quiet (fail); try go_wp2_with (first | (go_at_call 39; refine (tests_letter (s[i]'hi) _).mono ?_; rintro e c ⟨rfl, hb5⟩; rw [hl]; have hS5 := Aside0.mk ((hS4.out.drewN _).below hb5); clear hb5 hc0 hc1) | (go_at_call 42; refine (tests_digit (s[i]'hi) _).mono ?_; rintro e d ⟨rfl, hb6⟩; rw [hd]; have hS6 := Aside0.mk (hS5.out.below hb6); clear hb6) | (go_at_call 45; refine (lex_peek.calls g s i 1 (Nat.le_of_lt hi) (by omega) hs w0 _ hS6.out.isS hS6.out.bel).mono ?_; rintro e j ⟨rfl, hI_, hB_, hK_⟩; have hS7 := Aside0.mk (hS6.out.call hI_ hB_ hK_); clear hI_ hB_ hK_; have hk0 := (blk_cell hS7.out.c4 0).trans rfl; have hf0 := blk_frozen hS7.out.c4 0; have hcg := cellS37_1 hS7.out.isS.1; have hfg := blk_frozen hS7.out.isS.1 1; have hgn := hS7.out.ne4; have hgn2 := Ne.symm hgn)))
 have hSX := Aside0.mk ((hS7.out.kind 17).at2)
 rw [hm.out] at hSX
 clear hk0 hf0 hcg hfg hgn hgn2
 refine still_letter 12 (by kernel_rfl) (by kernel_rfl) ?_
 intro wd hwd hbd
 simp only [List.take_succ_cons, List.take_zero, List.drop_succ_cons, List.drop_zero]
 have hSd := Aside0.mk (hSX.out.below hbd)
 have hcd0 := cellS37_0 hSd.out.isS.1
 have hcd1 := cellS37_1 hSd.out.isS.1
 have hk0 := (blk_cell hSd.out.c4 0).trans rfl
 have hk1x := (blk_cell hSd.out.c4 1).trans rfl
 have hk2x := (blk_cell hSd.out.c4 2).trans rfl
 have hf1 := blk_frozen hSd.out.c4 1
 repeat still_step
 refine wpStill_nil ?_
 have hr0 := (blk_cell hSd.out.c2 0).trans rfl
 have hr1 := (blk_cell hSd.out.c2 1).trans rfl
 have hr2 := (blk_cell hSd.out.c2 2).trans rfl
 have hq0 := blk_frozen hSd.out.c2 0
 have hq1 := blk_frozen hSd.out.c2 1
 have hq2 := blk_frozen hSd.out.c2 2
 have hne := hSd.out.ne
 have hne2 := Ne.symm hne
 go_wp2
 have hD := (hSd.out.text (s.extract i m)).done rfl
 refine bodyPost_ret (results_ct3 rfl _ _ b2 64 _ (0, 0) _ rfl hD.1 hu28 rfl rfl) rfl ?_
 exact ⟨rfl, hD.2.1, hD.2.2.1, hD.2.2.2⟩
theorem lex_word.assign (g : Nat) (s : ByteArray) (i : Nat) (hi : i < s.size) (hs : s.size ≤ 140737488351232) (w0 w : World) (hI : IsS37 w0 w g s i) (hB : Below w0.heap.size w0 w) (hl : isLetter (s[i]'hi) = false) (hd : isDigit (s[i]'hi) = false) (hc : s[i]'hi = 58) (hp : byteAt s (i + 1) = 61) :
  Calls Try.prog 32 #[.pointer (some ⟨g, 0, none⟩)] w fun e w' => e = .returned (.tuple #[.agg #[.int .i64 7, .string (s.extract i (i + 2)), .int .i64 i], .bool true]) ∧ IsS37 w0 w' g s ((i + 2) : Nat) ∧ Below w0.heap.size w0 w' ∧ KeepBut w w' g none := by
 have hb39 : (((s[i]'hi).toNat : Int) == 39) = false := by rw [hc]; rfl
 have hb35 : (((s[i]'hi).toNat : Int) == 35) = false := by rw [hc]; rfl
 have hb58 : (((s[i]'hi).toNat : Int) == 58) = true := by rw [hc]; rfl
 have hlt2 : i + 1 < s.size := by unfold byteAt at hp; split at hp; assumption; cases hp
 have hp1 : (byteAt s (i + 1) == 61) = true := by rw [hp]; rfl
 replace hc := Aside0.mk hc
 replace hp := Aside0.mk hp
 obtain ⟨m, hm⟩ : ∃ m, i + 2 = m := ⟨_, rfl⟩
 rw [hm]
 have hml : m ≤ s.size := by omega
 have him : i ≤ m := by omega
 have hwk := wrap_in ((i : Int) + 2) (by omega) (by omega)
 have hwk1 := hwk.1
 have hwk2 := hwk.2
 clear hwk
 replace hm := Aside0.mk hm
 have hu28 := Try.underlying64
 have hc1 := cellS37_1 hI.1
 have hlg := Aside0.mk hI.lt
 have hlw := Aside0.mk hB.size
 go_enter Try.func32, Try.ntmps32
 go_wp2_with (first | ((with_reducible refine gate_dst (N := 2) rfl ?_); (try (refine gate_guard (by rfl) ?_; dsimp only)); refine box_event ?hg (N := 2) ?hd (cs := #[.int .i64 0, .string ⟨#[]⟩, .int .i64 0]) (t := 64) ?hr ?_; (case hd => rfl); (case hg => rfl); (case hr => first | (go_simp; done) | (go_simp; rfl)); intro b2 hg2 wa2 hx2 ha2; replace hg2 := Aside0.mk hg2; have hI2 := hI.below ha2; clear hc1; have hc1 := cellS37_1 hI2.1) | ((with_reducible refine gate_dst (N := 4) rfl ?_); (try (refine gate_guard (by rfl) ?_; dsimp only)); refine box_event ?hg (N := 4) ?hd (cs := #[.int .i64 0, .string ⟨#[]⟩, .int .i64 0]) (t := 64) ?hr ?_; (case hd => rfl); (case hg => rfl); (case hr => first | (go_simp; done) | (go_simp; rfl)); intro b4 hg4 wa4 hx4 ha4; replace hg4 := Aside0.mk hg4; have hS4 := St.start hI hB hlg.out hg2.out hx2 ha2 hg4.out hx4 ha4; clear hc1; have hf40 := blk_frozen hx4 0; have hf41 := blk_frozen hx4 1; have hf42 := blk_frozen hx4 2; have hk40 := (blk_cell hx4 0).trans rfl; have hk41 := (blk_cell hx4 1).trans rfl; have hk42 := (blk_cell hx4 2).trans rfl))
 replace hS4 := Aside0.mk (((hS4.kind 0).text ⟨#[]⟩).place i)
 generalize (((wa4.setCell ⟨b4, 0, none⟩ (.int .i64 0)).setCell ⟨b4, 1, none⟩ (.string ⟨#[]⟩)).setCell ⟨b4, 2, none⟩ (.int .i64 i)) = W4 at hS4 ⊢
 clear hf40 hf41 hf42 hk40 hk41 hk42 hg2 hg4 hx2 hx4 ha2 ha4 hI2 hlg hlw wa2 wa4
 have hc0 := cellS37_0 hS4.out.isS.1
 have hc1 := cellS37_1 hS4.out.isS.1
 have a := eq_true (show (0 : Int) ≤ (i : Int) from by omega)
 have b := eq_true (show (i : Int) < (s.size : Int) from by omega)
 go_wp2
 repeat (go_quiet (fail); try go_wp2_with (first | (go_at_call 39; refine (tests_letter (s[i]'hi) _).mono ?_; rintro e c ⟨rfl, hb5⟩; rw [hl]; have hS5 := Aside0.mk ((hS4.out.drewN _).below hb5); clear hb5 hc0 hc1) | (go_at_call 42; refine (tests_digit (s[i]'hi) _).mono ?_; rintro e d ⟨rfl, hb6⟩; rw [hd]; have hS6 := Aside0.mk (hS5.out.below hb6); clear hb6) | (go_at_call 45; refine (lex_peek.calls g s i 1 (Nat.le_of_lt hi) (by omega) hs w0 _ hS6.out.isS hS6.out.bel).mono ?_; rintro e j ⟨rfl, hI_, hB_, hK_⟩; have hS7 := Aside0.mk (hS6.out.call hI_ hB_ hK_); clear hI_ hB_ hK_; have hk0 := (blk_cell hS7.out.c4 0).trans rfl; have hf0 := blk_frozen hS7.out.c4 0; have hcg := cellS37_1 hS7.out.isS.1; have hfg := blk_frozen hS7.out.isS.1 1; have hgn := hS7.out.ne4; have hgn2 := Ne.symm hgn)))
 have hSX := Aside0.mk ((hS7.out.kind 7).at2)
 rw [hm.out] at hSX
 clear hk0 hf0 hcg hfg hgn hgn2
 refine still_letter 12 (by kernel_rfl) (by kernel_rfl) ?_
 intro wd hwd hbd
 simp only [List.take_succ_cons, List.take_zero, List.drop_succ_cons, List.drop_zero]
 have hSd := Aside0.mk (hSX.out.below hbd)
 have hcd0 := cellS37_0 hSd.out.isS.1
 have hcd1 := cellS37_1 hSd.out.isS.1
 have hk0 := (blk_cell hSd.out.c4 0).trans rfl
 have hk1x := (blk_cell hSd.out.c4 1).trans rfl
 have hk2x := (blk_cell hSd.out.c4 2).trans rfl
 have hf1 := blk_frozen hSd.out.c4 1
 repeat still_step
 refine wpStill_nil ?_
 have hr0 := (blk_cell hSd.out.c2 0).trans rfl
 have hr1 := (blk_cell hSd.out.c2 1).trans rfl
 have hr2 := (blk_cell hSd.out.c2 2).trans rfl
 have hq0 := blk_frozen hSd.out.c2 0
 have hq1 := blk_frozen hSd.out.c2 1
 have hq2 := blk_frozen hSd.out.c2 2
 have hne := hSd.out.ne
 have hne2 := Ne.symm hne
 go_wp2
 have hD := (hSd.out.text (s.extract i m)).done rfl
 refine bodyPost_ret (results_ct3 rfl _ _ b2 64 _ (0, 0) _ rfl hD.1 hu28 rfl rfl) rfl ?_
 exact ⟨rfl, hD.2.1, hD.2.2.1, hD.2.2.2⟩
theorem lex_word.colon (g : Nat) (s : ByteArray) (i : Nat) (hi : i < s.size) (hs : s.size ≤ 140737488351232) (w0 w : World) (hI : IsS37 w0 w g s i) (hB : Below w0.heap.size w0 w) (hl : isLetter (s[i]'hi) = false) (hd : isDigit (s[i]'hi) = false) (hc : s[i]'hi = 58) (hp : ¬ byteAt s (i + 1) = 61) :
  Calls Try.prog 32 #[.pointer (some ⟨g, 0, none⟩)] w fun e w' => e = .returned (.tuple #[.agg #[.int .i64 16, .string (s.extract i (i + 1)), .int .i64 i], .bool true]) ∧ IsS37 w0 w' g s ((i + 1) : Nat) ∧ Below w0.heap.size w0 w' ∧ KeepBut w w' g none := by
 have hb39 : (((s[i]'hi).toNat : Int) == 39) = false := by rw [hc]; rfl
 have hb35 : (((s[i]'hi).toNat : Int) == 35) = false := by rw [hc]; rfl
 have hb58 : (((s[i]'hi).toNat : Int) == 58) = true := by rw [hc]; rfl
 have hp1 : (byteAt s (i + 1) == 61) = false := beq_eq_false_iff_ne.2 hp
 replace hc := Aside0.mk hc
 replace hp := Aside0.mk hp
 obtain ⟨m, hm⟩ : ∃ m, i + 1 = m := ⟨_, rfl⟩
 rw [hm]
 have hml : m ≤ s.size := by omega
 have him : i ≤ m := by omega
 have hwk := wrap_in ((i : Int) + 1) (by omega) (by omega)
 have hwk1 := hwk.1
 have hwk2 := hwk.2
 clear hwk
 replace hm := Aside0.mk hm
 have hu28 := Try.underlying64
 have hc1 := cellS37_1 hI.1
 have hlg := Aside0.mk hI.lt
 have hlw := Aside0.mk hB.size
 go_enter Try.func32, Try.ntmps32
 go_wp2_with (first | ((with_reducible refine gate_dst (N := 2) rfl ?_); (try (refine gate_guard (by rfl) ?_; dsimp only)); refine box_event ?hg (N := 2) ?hd (cs := #[.int .i64 0, .string ⟨#[]⟩, .int .i64 0]) (t := 64) ?hr ?_; (case hd => rfl); (case hg => rfl); (case hr => first | (go_simp; done) | (go_simp; rfl)); intro b2 hg2 wa2 hx2 ha2; replace hg2 := Aside0.mk hg2; have hI2 := hI.below ha2; clear hc1; have hc1 := cellS37_1 hI2.1) | ((with_reducible refine gate_dst (N := 4) rfl ?_); (try (refine gate_guard (by rfl) ?_; dsimp only)); refine box_event ?hg (N := 4) ?hd (cs := #[.int .i64 0, .string ⟨#[]⟩, .int .i64 0]) (t := 64) ?hr ?_; (case hd => rfl); (case hg => rfl); (case hr => first | (go_simp; done) | (go_simp; rfl)); intro b4 hg4 wa4 hx4 ha4; replace hg4 := Aside0.mk hg4; have hS4 := St.start hI hB hlg.out hg2.out hx2 ha2 hg4.out hx4 ha4; clear hc1; have hf40 := blk_frozen hx4 0; have hf41 := blk_frozen hx4 1; have hf42 := blk_frozen hx4 2; have hk40 := (blk_cell hx4 0).trans rfl; have hk41 := (blk_cell hx4 1).trans rfl; have hk42 := (blk_cell hx4 2).trans rfl))
 replace hS4 := Aside0.mk (((hS4.kind 0).text ⟨#[]⟩).place i)
 generalize (((wa4.setCell ⟨b4, 0, none⟩ (.int .i64 0)).setCell ⟨b4, 1, none⟩ (.string ⟨#[]⟩)).setCell ⟨b4, 2, none⟩ (.int .i64 i)) = W4 at hS4 ⊢
 clear hf40 hf41 hf42 hk40 hk41 hk42 hg2 hg4 hx2 hx4 ha2 ha4 hI2 hlg hlw wa2 wa4
 have hc0 := cellS37_0 hS4.out.isS.1
 have hc1 := cellS37_1 hS4.out.isS.1
 have a := eq_true (show (0 : Int) ≤ (i : Int) from by omega)
 have b := eq_true (show (i : Int) < (s.size : Int) from by omega)
 go_wp2
 repeat (go_quiet (fail); try go_wp2_with (first | (go_at_call 39; refine (tests_letter (s[i]'hi) _).mono ?_; rintro e c ⟨rfl, hb5⟩; rw [hl]; have hS5 := Aside0.mk ((hS4.out.drewN _).below hb5); clear hb5 hc0 hc1) | (go_at_call 42; refine (tests_digit (s[i]'hi) _).mono ?_; rintro e d ⟨rfl, hb6⟩; rw [hd]; have hS6 := Aside0.mk (hS5.out.below hb6); clear hb6) | (go_at_call 45; refine (lex_peek.calls g s i 1 (Nat.le_of_lt hi) (by omega) hs w0 _ hS6.out.isS hS6.out.bel).mono ?_; rintro e j ⟨rfl, hI_, hB_, hK_⟩; have hS7 := Aside0.mk (hS6.out.call hI_ hB_ hK_); clear hI_ hB_ hK_; have hk0 := (blk_cell hS7.out.c4 0).trans rfl; have hf0 := blk_frozen hS7.out.c4 0; have hcg := cellS37_1 hS7.out.isS.1; have hfg := blk_frozen hS7.out.isS.1 1; have hgn := hS7.out.ne4; have hgn2 := Ne.symm hgn)))
 have hSX := Aside0.mk ((hS7.out.kind 16).at1)
 rw [hm.out] at hSX
 clear hk0 hf0 hcg hfg hgn hgn2
 refine still_letter 12 (by kernel_rfl) (by kernel_rfl) ?_
 intro wd hwd hbd
 simp only [List.take_succ_cons, List.take_zero, List.drop_succ_cons, List.drop_zero]
 have hSd := Aside0.mk (hSX.out.below hbd)
 have hcd0 := cellS37_0 hSd.out.isS.1
 have hcd1 := cellS37_1 hSd.out.isS.1
 have hk0 := (blk_cell hSd.out.c4 0).trans rfl
 have hk1x := (blk_cell hSd.out.c4 1).trans rfl
 have hk2x := (blk_cell hSd.out.c4 2).trans rfl
 have hf1 := blk_frozen hSd.out.c4 1
 repeat still_step
 refine wpStill_nil ?_
 have hr0 := (blk_cell hSd.out.c2 0).trans rfl
 have hr1 := (blk_cell hSd.out.c2 1).trans rfl
 have hr2 := (blk_cell hSd.out.c2 2).trans rfl
 have hq0 := blk_frozen hSd.out.c2 0
 have hq1 := blk_frozen hSd.out.c2 1
 have hq2 := blk_frozen hSd.out.c2 2
 have hne := hSd.out.ne
 have hne2 := Ne.symm hne
 go_wp2
 have hD := (hSd.out.text (s.extract i m)).done rfl
 refine bodyPost_ret (results_ct3 rfl _ _ b2 64 _ (0, 0) _ rfl hD.1 hu28 rfl rfl) rfl ?_
 exact ⟨rfl, hD.2.1, hD.2.2.1, hD.2.2.2⟩
theorem lex_word.sign (g : Nat) (s : ByteArray) (i : Nat) (hi : i < s.size) (hs : s.size ≤ 140737488351232) (w0 w : World) (hI : IsS37 w0 w g s i) (hB : Below w0.heap.size w0 w) (hl : isLetter (s[i]'hi) = false) (hd : isDigit (s[i]'hi) = false) (hn39 : ¬ s[i]'hi = 39) (hn35 : ¬ s[i]'hi = 35) (hn58 : ¬ s[i]'hi = 58) (hg : hit isSign s i = true) :
  Calls Try.prog 32 #[.pointer (some ⟨g, 0, none⟩)] w fun e w' => e = .returned (.tuple #[.agg #[.int .i64 3, .string (s.extract i (signEnd s i)), .int .i64 i], .bool true]) ∧ IsS37 w0 w' g s ((signEnd s i) : Nat) ∧ Below w0.heap.size w0 w' ∧ KeepBut w w' g none := by
 have hb39 : (((s[i]'hi).toNat : Int) == 39) = false := beq_eq_false_iff_ne.2 fun h => hn39 (UInt8.toNat_inj.1 (by simpa using (by omega : (s[i]'hi).toNat = 39)))
 have hb35 : (((s[i]'hi).toNat : Int) == 35) = false := beq_eq_false_iff_ne.2 fun h => hn35 (UInt8.toNat_inj.1 (by simpa using (by omega : (s[i]'hi).toNat = 35)))
 have hb58 : (((s[i]'hi).toNat : Int) == 58) = false := beq_eq_false_iff_ne.2 fun h => hn58 (UInt8.toNat_inj.1 (by simpa using (by omega : (s[i]'hi).toNat = 58)))
 clear hn39 hn35 hn58
 have hn0 := signEnd_le s i (Nat.le_of_lt hi)
 have hn1 := signEnd_ge s i
 obtain ⟨k1, hk⟩ : ∃ k, signEnd s i = k := ⟨_, rfl⟩
 rw [hk] at hn0 hn1
 rw [hk]
 replace hk := Aside0.mk hk
 have hu28 := Try.underlying64
 have hc1 := cellS37_1 hI.1
 have hlg := Aside0.mk hI.lt
 have hlw := Aside0.mk hB.size
 go_enter Try.func32, Try.ntmps32
 go_wp2_with (first | ((with_reducible refine gate_dst (N := 2) rfl ?_); (try (refine gate_guard (by rfl) ?_; dsimp only)); refine box_event ?hg (N := 2) ?hd (cs := #[.int .i64 0, .string ⟨#[]⟩, .int .i64 0]) (t := 64) ?hr ?_; (case hd => rfl); (case hg => rfl); (case hr => first | (go_simp; done) | (go_simp; rfl)); intro b2 hg2 wa2 hx2 ha2; replace hg2 := Aside0.mk hg2; have hI2 := hI.below ha2; clear hc1; have hc1 := cellS37_1 hI2.1) | ((with_reducible refine gate_dst (N := 4) rfl ?_); (try (refine gate_guard (by rfl) ?_; dsimp only)); refine box_event ?hg (N := 4) ?hd (cs := #[.int .i64 0, .string ⟨#[]⟩, .int .i64 0]) (t := 64) ?hr ?_; (case hd => rfl); (case hg => rfl); (case hr => first | (go_simp; done) | (go_simp; rfl)); intro b4 hg4 wa4 hx4 ha4; replace hg4 := Aside0.mk hg4; have hS4 := St.start hI hB hlg.out hg2.out hx2 ha2 hg4.out hx4 ha4; clear hc1; have hf40 := blk_frozen hx4 0; have hf41 := blk_frozen hx4 1; have hf42 := blk_frozen hx4 2; have hk40 := (blk_cell hx4 0).trans rfl; have hk41 := (blk_cell hx4 1).trans rfl; have hk42 := (blk_cell hx4 2).trans rfl))
 replace hS4 := Aside0.mk (((hS4.kind 0).text ⟨#[]⟩).place i)
 generalize (((wa4.setCell ⟨b4, 0, none⟩ (.int .i64 0)).setCell ⟨b4, 1, none⟩ (.string ⟨#[]⟩)).setCell ⟨b4, 2, none⟩ (.int .i64 i)) = W4 at hS4 ⊢
 clear hf40 hf41 hf42 hk40 hk41 hk42 hg2 hg4 hx2 hx4 ha2 ha4 hI2 hlg hlw wa2 wa4
 have hc0 := cellS37_0 hS4.out.isS.1
 have hc1 := cellS37_1 hS4.out.isS.1
 have a := eq_true (show (0 : Int) ≤ (i : Int) from by omega)
 have b := eq_true (show (i : Int) < (s.size : Int) from by omega)
 go_wp2
 repeat (go_quiet (fail); try go_wp2_with (first | (go_at_call 39; refine (tests_letter (s[i]'hi) _).mono ?_; rintro e c ⟨rfl, hb5⟩; rw [hl]; have hS5 := Aside0.mk ((hS4.out.drewN _).below hb5); clear hb5 hc0 hc1) | (go_at_call 42; refine (tests_digit (s[i]'hi) _).mono ?_; rintro e d ⟨rfl, hb6⟩; rw [hd]; have hS6 := Aside0.mk (hS5.out.below hb6); clear hb6) | (go_at_call 47; refine (lex_sign.calls g s i (Nat.le_of_lt hi) hs w0 _ hS6.out.isS hS6.out.bel).mono ?_; rintro e j ⟨rfl, hI_, hB_, hK_⟩; have hS7 := Aside0.mk (hS6.out.call hI_ hB_ hK_); clear hI_ hB_ hK_; rw [hg]; rw [hk.out] at hS7; have hk0 := (blk_cell hS7.out.c4 0).trans rfl; have hf0 := blk_frozen hS7.out.c4 0; have hcg := cellS37_1 hS7.out.isS.1; have hfg := blk_frozen hS7.out.isS.1 1; have hgn := hS7.out.ne4; have hgn2 := Ne.symm hgn)))
 have hSX := Aside0.mk (hS7.out.kind 3)
 clear hk0 hf0 hcg hfg hgn hgn2
 refine still_letter 12 (by kernel_rfl) (by kernel_rfl) ?_
 intro wd hwd hbd
 simp only [List.take_succ_cons, List.take_zero, List.drop_succ_cons, List.drop_zero]
 have hSd := Aside0.mk (hSX.out.below hbd)
 have hcd0 := cellS37_0 hSd.out.isS.1
 have hcd1 := cellS37_1 hSd.out.isS.1
 have hk0 := (blk_cell hSd.out.c4 0).trans rfl
 have hk1x := (blk_cell hSd.out.c4 1).trans rfl
 have hk2x := (blk_cell hSd.out.c4 2).trans rfl
 have hf1 := blk_frozen hSd.out.c4 1
 repeat still_step
 refine wpStill_nil ?_
 have hr0 := (blk_cell hSd.out.c2 0).trans rfl
 have hr1 := (blk_cell hSd.out.c2 1).trans rfl
 have hr2 := (blk_cell hSd.out.c2 2).trans rfl
 have hq0 := blk_frozen hSd.out.c2 0
 have hq1 := blk_frozen hSd.out.c2 1
 have hq2 := blk_frozen hSd.out.c2 2
 have hne := hSd.out.ne
 have hne2 := Ne.symm hne
 go_wp2
 have hD := (hSd.out.text (s.extract i k1)).done rfl
 refine bodyPost_ret (results_ct3 rfl _ _ b2 64 _ (0, 0) _ rfl hD.1 hu28 rfl rfl) rfl ?_
 exact ⟨rfl, hD.2.1, hD.2.2.1, hD.2.2.2⟩
def singles : List UInt8 := [40, 41, 91, 93, 124, 94, 46, 59]
theorem plc_ge (l : List UInt8) (c : UInt8) : -1 ≤ plc l c := by unfold plc; split <;> omega
theorem plc_le (l : List UInt8) (c : UInt8) : plc l c ≤ l.length := by
 unfold plc
 split
 case h_1 i h => have := (List.findIdx?_eq_some_iff_getElem.1 h).1; omega
 case h_2 => omega
theorem lex_word.single (g : Nat) (s : ByteArray) (i : Nat) (hi : i < s.size) (hs : s.size ≤ 140737488351232) (w0 w : World) (hI : IsS37 w0 w g s i) (hB : Below w0.heap.size w0 w) (hl : isLetter (s[i]'hi) = false) (hd : isDigit (s[i]'hi) = false) (hn39 : ¬ s[i]'hi = 39) (hn35 : ¬ s[i]'hi = 35) (hn58 : ¬ s[i]'hi = 58) (hg : hit isSign s i = false) (hp0 : 0 ≤ plc singles (s[i]'hi)) :
  Calls Try.prog 32 #[.pointer (some ⟨g, 0, none⟩)] w fun e w' => e = .returned (.tuple #[.agg #[.int .i64 (8 + plc singles (s[i]'hi)), .string (s.extract i (i + 1)), .int .i64 i], .bool true]) ∧ IsS37 w0 w' g s ((i + 1) : Nat) ∧ Below w0.heap.size w0 w' ∧ KeepBut w w' g none := by
 have hb39 : (((s[i]'hi).toNat : Int) == 39) = false := beq_eq_false_iff_ne.2 fun h => hn39 (UInt8.toNat_inj.1 (by simpa using (by omega : (s[i]'hi).toNat = 39)))
 have hb35 : (((s[i]'hi).toNat : Int) == 35) = false := beq_eq_false_iff_ne.2 fun h => hn35 (UInt8.toNat_inj.1 (by simpa using (by omega : (s[i]'hi).toNat = 35)))
 have hb58 : (((s[i]'hi).toNat : Int) == 58) = false := beq_eq_false_iff_ne.2 fun h => hn58 (UInt8.toNat_inj.1 (by simpa using (by omega : (s[i]'hi).toNat = 58)))
 clear hn39 hn35 hn58
 have he2 : signEnd s i = i := by unfold signEnd; rw [hg]; rfl
 have hk := Aside0.mk he2
 clear he2
 have hp1 := plc_ge singles (s[i]'hi)
 have hp2 := plc_le singles (s[i]'hi)
 rw [show singles.length = 8 from rfl] at hp2
 obtain ⟨p, hp⟩ : ∃ p, plc singles (s[i]'hi) = p := ⟨_, rfl⟩
 rw [hp] at hp0 hp1 hp2
 rw [hp]
 have hq : plc (ByteArray.mk #[40, 41, 91, 93, 124, 94, 46, 59]).data.toList (s[i]'hi) = p := hp
 replace hq := Aside0.mk hq
 clear hp
 have hwp := wrap_in (8 + p) (by omega) (by omega)
 have hwp1 := hwp.1
 have hwp2 := hwp.2
 clear hwp
 have h8 : decide (8 ≤ 8 + p) = true := decide_eq_true (by omega)
 obtain ⟨m, hm⟩ : ∃ m, i + 1 = m := ⟨_, rfl⟩
 rw [hm]
 have hml : m ≤ s.size := by omega
 have him : i ≤ m := by omega
 have hwk := wrap_in ((i : Int) + 1) (by omega) (by omega)
 have hwk1 := hwk.1
 have hwk2 := hwk.2
 clear hwk
 replace hm := Aside0.mk hm
 have hu28 := Try.underlying64
 have hc1 := cellS37_1 hI.1
 have hlg := Aside0.mk hI.lt
 have hlw := Aside0.mk hB.size
 go_enter Try.func32, Try.ntmps32
 go_wp2_with (first | ((with_reducible refine gate_dst (N := 2) rfl ?_); (try (refine gate_guard (by rfl) ?_; dsimp only)); refine box_event ?hg (N := 2) ?hd (cs := #[.int .i64 0, .string ⟨#[]⟩, .int .i64 0]) (t := 64) ?hr ?_; (case hd => rfl); (case hg => rfl); (case hr => first | (go_simp; done) | (go_simp; rfl)); intro b2 hg2 wa2 hx2 ha2; replace hg2 := Aside0.mk hg2; have hI2 := hI.below ha2; clear hc1; have hc1 := cellS37_1 hI2.1) | ((with_reducible refine gate_dst (N := 4) rfl ?_); (try (refine gate_guard (by rfl) ?_; dsimp only)); refine box_event ?hg (N := 4) ?hd (cs := #[.int .i64 0, .string ⟨#[]⟩, .int .i64 0]) (t := 64) ?hr ?_; (case hd => rfl); (case hg => rfl); (case hr => first | (go_simp; done) | (go_simp; rfl)); intro b4 hg4 wa4 hx4 ha4; replace hg4 := Aside0.mk hg4; have hS4 := St.start hI hB hlg.out hg2.out hx2 ha2 hg4.out hx4 ha4; clear hc1; have hf40 := blk_frozen hx4 0; have hf41 := blk_frozen hx4 1; have hf42 := blk_frozen hx4 2; have hk40 := (blk_cell hx4 0).trans rfl; have hk41 := (blk_cell hx4 1).trans rfl; have hk42 := (blk_cell hx4 2).trans rfl))
 replace hS4 := Aside0.mk (((hS4.kind 0).text ⟨#[]⟩).place i)
 generalize (((wa4.setCell ⟨b4, 0, none⟩ (.int .i64 0)).setCell ⟨b4, 1, none⟩ (.string ⟨#[]⟩)).setCell ⟨b4, 2, none⟩ (.int .i64 i)) = W4 at hS4 ⊢
 clear hf40 hf41 hf42 hk40 hk41 hk42 hg2 hg4 hx2 hx4 ha2 ha4 hI2 hlg hlw wa2 wa4
 have hc0 := cellS37_0 hS4.out.isS.1
 have hc1 := cellS37_1 hS4.out.isS.1
 have a := eq_true (show (0 : Int) ≤ (i : Int) from by omega)
 have b := eq_true (show (i : Int) < (s.size : Int) from by omega)
 go_wp2
 repeat (go_quiet (fail); try go_wp2_with (first | (go_at_call 39; refine (tests_letter (s[i]'hi) _).mono ?_; rintro e c ⟨rfl, hb5⟩; rw [hl]; have hS5 := Aside0.mk ((hS4.out.drewN _).below hb5); clear hb5 hc0 hc1) | (go_at_call 42; refine (tests_digit (s[i]'hi) _).mono ?_; rintro e d ⟨rfl, hb6⟩; rw [hd]; have hS6 := Aside0.mk (hS5.out.below hb6); clear hb6) | (go_at_call 47; refine (lex_sign.calls g s i (Nat.le_of_lt hi) hs w0 _ hS6.out.isS hS6.out.bel).mono ?_; rintro e j ⟨rfl, hI_, hB_, hK_⟩; have hS7 := Aside0.mk (hS6.out.call hI_ hB_ hK_); clear hI_ hB_ hK_; rw [hg]; rw [hk.out] at hS7) | (go_at_call 30; refine (lex_place.calls (s[i]'hi) _ (by decide) _).mono ?_; rintro e k ⟨rfl, hb8⟩; rw [hq.out]; have hS8 := Aside0.mk (hS7.out.below hb8); clear hb8; have hk0 := (blk_cell hS8.out.c4 0).trans rfl; have hf0 := blk_frozen hS8.out.c4 0; have hcg := cellS37_1 hS8.out.isS.1; have hfg := blk_frozen hS8.out.isS.1 1; have hgn := hS8.out.ne4; have hgn2 := Ne.symm hgn)))
 have hSX := Aside0.mk ((hS8.out.kind (8 + p)).at1)
 rw [hm.out] at hSX
 clear hk0 hf0 hcg hfg hgn hgn2
 refine still_letter 12 (by kernel_rfl) (by kernel_rfl) ?_
 intro wd hwd hbd
 simp only [List.take_succ_cons, List.take_zero, List.drop_succ_cons, List.drop_zero]
 have hSd := Aside0.mk (hSX.out.below hbd)
 have hcd0 := cellS37_0 hSd.out.isS.1
 have hcd1 := cellS37_1 hSd.out.isS.1
 have hk0 := (blk_cell hSd.out.c4 0).trans rfl
 have hk1x := (blk_cell hSd.out.c4 1).trans rfl
 have hk2x := (blk_cell hSd.out.c4 2).trans rfl
 have hf1 := blk_frozen hSd.out.c4 1
 repeat still_step
 refine wpStill_nil ?_
 have hr0 := (blk_cell hSd.out.c2 0).trans rfl
 have hr1 := (blk_cell hSd.out.c2 1).trans rfl
 have hr2 := (blk_cell hSd.out.c2 2).trans rfl
 have hq0 := blk_frozen hSd.out.c2 0
 have hq1 := blk_frozen hSd.out.c2 1
 have hq2 := blk_frozen hSd.out.c2 2
 have hne := hSd.out.ne
 have hne2 := Ne.symm hne
 go_wp2
 have hD := (hSd.out.text (s.extract i m)).done rfl
 refine bodyPost_ret (results_ct3 rfl _ _ b2 64 _ (0, 0) _ rfl hD.1 hu28 rfl rfl) rfl ?_
 exact ⟨rfl, hD.2.1, hD.2.2.1, hD.2.2.2⟩
theorem lex_word.nothing (g : Nat) (s : ByteArray) (i : Nat) (hi : i < s.size) (hs : s.size ≤ 140737488351232) (w0 w : World) (hI : IsS37 w0 w g s i) (hB : Below w0.heap.size w0 w) (hl : isLetter (s[i]'hi) = false) (hd : isDigit (s[i]'hi) = false) (hn39 : ¬ s[i]'hi = 39) (hn35 : ¬ s[i]'hi = 35) (hn58 : ¬ s[i]'hi = 58) (hg : hit isSign s i = false) (hp0 : plc singles (s[i]'hi) < 0) :
  Calls Try.prog 32 #[.pointer (some ⟨g, 0, none⟩)] w fun e w' => e = .returned (.tuple #[.agg #[.int .i64 (8 + plc singles (s[i]'hi)), .string (s.extract i (i + 1)), .int .i64 i], .bool false]) ∧ IsS37 w0 w' g s ((i + 1) : Nat) ∧ Below w0.heap.size w0 w' ∧ KeepBut w w' g none := by
 have hb39 : (((s[i]'hi).toNat : Int) == 39) = false := beq_eq_false_iff_ne.2 fun h => hn39 (UInt8.toNat_inj.1 (by simpa using (by omega : (s[i]'hi).toNat = 39)))
 have hb35 : (((s[i]'hi).toNat : Int) == 35) = false := beq_eq_false_iff_ne.2 fun h => hn35 (UInt8.toNat_inj.1 (by simpa using (by omega : (s[i]'hi).toNat = 35)))
 have hb58 : (((s[i]'hi).toNat : Int) == 58) = false := beq_eq_false_iff_ne.2 fun h => hn58 (UInt8.toNat_inj.1 (by simpa using (by omega : (s[i]'hi).toNat = 58)))
 clear hn39 hn35 hn58
 have he2 : signEnd s i = i := by unfold signEnd; rw [hg]; rfl
 have hk := Aside0.mk he2
 clear he2
 have hp1 := plc_ge singles (s[i]'hi)
 have hp2 := plc_le singles (s[i]'hi)
 rw [show singles.length = 8 from rfl] at hp2
 obtain ⟨p, hp⟩ : ∃ p, plc singles (s[i]'hi) = p := ⟨_, rfl⟩
 rw [hp] at hp0 hp1 hp2
 rw [hp]
 have hq : plc (ByteArray.mk #[40, 41, 91, 93, 124, 94, 46, 59]).data.toList (s[i]'hi) = p := hp
 replace hq := Aside0.mk hq
 clear hp
 have hwp := wrap_in (8 + p) (by omega) (by omega)
 have hwp1 := hwp.1
 have hwp2 := hwp.2
 clear hwp
 have h8 : decide (8 ≤ 8 + p) = false := decide_eq_false (by omega)
 obtain ⟨m, hm⟩ : ∃ m, i + 1 = m := ⟨_, rfl⟩
 rw [hm]
 have hml : m ≤ s.size := by omega
 have him : i ≤ m := by omega
 have hwk := wrap_in ((i : Int) + 1) (by omega) (by omega)
 have hwk1 := hwk.1
 have hwk2 := hwk.2
 clear hwk
 replace hm := Aside0.mk hm
 have hu28 := Try.underlying64
 have hc1 := cellS37_1 hI.1
 have hlg := Aside0.mk hI.lt
 have hlw := Aside0.mk hB.size
 go_enter Try.func32, Try.ntmps32
 go_wp2_with (first | ((with_reducible refine gate_dst (N := 2) rfl ?_); (try (refine gate_guard (by rfl) ?_; dsimp only)); refine box_event ?hg (N := 2) ?hd (cs := #[.int .i64 0, .string ⟨#[]⟩, .int .i64 0]) (t := 64) ?hr ?_; (case hd => rfl); (case hg => rfl); (case hr => first | (go_simp; done) | (go_simp; rfl)); intro b2 hg2 wa2 hx2 ha2; replace hg2 := Aside0.mk hg2; have hI2 := hI.below ha2; clear hc1; have hc1 := cellS37_1 hI2.1) | ((with_reducible refine gate_dst (N := 4) rfl ?_); (try (refine gate_guard (by rfl) ?_; dsimp only)); refine box_event ?hg (N := 4) ?hd (cs := #[.int .i64 0, .string ⟨#[]⟩, .int .i64 0]) (t := 64) ?hr ?_; (case hd => rfl); (case hg => rfl); (case hr => first | (go_simp; done) | (go_simp; rfl)); intro b4 hg4 wa4 hx4 ha4; replace hg4 := Aside0.mk hg4; have hS4 := St.start hI hB hlg.out hg2.out hx2 ha2 hg4.out hx4 ha4; clear hc1; have hf40 := blk_frozen hx4 0; have hf41 := blk_frozen hx4 1; have hf42 := blk_frozen hx4 2; have hk40 := (blk_cell hx4 0).trans rfl; have hk41 := (blk_cell hx4 1).trans rfl; have hk42 := (blk_cell hx4 2).trans rfl))
 replace hS4 := Aside0.mk (((hS4.kind 0).text ⟨#[]⟩).place i)
 generalize (((wa4.setCell ⟨b4, 0, none⟩ (.int .i64 0)).setCell ⟨b4, 1, none⟩ (.string ⟨#[]⟩)).setCell ⟨b4, 2, none⟩ (.int .i64 i)) = W4 at hS4 ⊢
 clear hf40 hf41 hf42 hk40 hk41 hk42 hg2 hg4 hx2 hx4 ha2 ha4 hI2 hlg hlw wa2 wa4
 have hc0 := cellS37_0 hS4.out.isS.1
 have hc1 := cellS37_1 hS4.out.isS.1
 have a := eq_true (show (0 : Int) ≤ (i : Int) from by omega)
 have b := eq_true (show (i : Int) < (s.size : Int) from by omega)
 go_wp2
 repeat (go_quiet (fail); try go_wp2_with (first | (go_at_call 39; refine (tests_letter (s[i]'hi) _).mono ?_; rintro e c ⟨rfl, hb5⟩; rw [hl]; have hS5 := Aside0.mk ((hS4.out.drewN _).below hb5); clear hb5 hc0 hc1) | (go_at_call 42; refine (tests_digit (s[i]'hi) _).mono ?_; rintro e d ⟨rfl, hb6⟩; rw [hd]; have hS6 := Aside0.mk (hS5.out.below hb6); clear hb6) | (go_at_call 47; refine (lex_sign.calls g s i (Nat.le_of_lt hi) hs w0 _ hS6.out.isS hS6.out.bel).mono ?_; rintro e j ⟨rfl, hI_, hB_, hK_⟩; have hS7 := Aside0.mk (hS6.out.call hI_ hB_ hK_); clear hI_ hB_ hK_; rw [hg]; rw [hk.out] at hS7) | (go_at_call 30; refine (lex_place.calls (s[i]'hi) _ (by decide) _).mono ?_; rintro e k ⟨rfl, hb8⟩; rw [hq.out]; have hS8 := Aside0.mk (hS7.out.below hb8); clear hb8; have hk0 := (blk_cell hS8.out.c4 0).trans rfl; have hf0 := blk_frozen hS8.out.c4 0; have hcg := cellS37_1 hS8.out.isS.1; have hfg := blk_frozen hS8.out.isS.1 1; have hgn := hS8.out.ne4; have hgn2 := Ne.symm hgn)))
 have hSX := Aside0.mk ((hS8.out.kind (8 + p)).at1)
 rw [hm.out] at hSX
 clear hk0 hf0 hcg hfg hgn hgn2
 refine still_letter 12 (by kernel_rfl) (by kernel_rfl) ?_
 intro wd hwd hbd
 simp only [List.take_succ_cons, List.take_zero, List.drop_succ_cons, List.drop_zero]
 have hSd := Aside0.mk (hSX.out.below hbd)
 have hcd0 := cellS37_0 hSd.out.isS.1
 have hcd1 := cellS37_1 hSd.out.isS.1
 have hk0 := (blk_cell hSd.out.c4 0).trans rfl
 have hk1x := (blk_cell hSd.out.c4 1).trans rfl
 have hk2x := (blk_cell hSd.out.c4 2).trans rfl
 have hf1 := blk_frozen hSd.out.c4 1
 repeat still_step
 refine wpStill_nil ?_
 have hr0 := (blk_cell hSd.out.c2 0).trans rfl
 have hr1 := (blk_cell hSd.out.c2 1).trans rfl
 have hr2 := (blk_cell hSd.out.c2 2).trans rfl
 have hq0 := blk_frozen hSd.out.c2 0
 have hq1 := blk_frozen hSd.out.c2 1
 have hq2 := blk_frozen hSd.out.c2 2
 have hne := hSd.out.ne
 have hne2 := Ne.symm hne
 go_wp2
 have hD := (hSd.out.text (s.extract i m)).done rfl
 refine bodyPost_ret (results_ct3 rfl _ _ b2 64 _ (0, 0) _ rfl hD.1 hu28 rfl rfl) rfl ?_
 exact ⟨rfl, hD.2.1, hD.2.2.1, hD.2.2.2⟩
theorem lex_word.text (g : Nat) (s : ByteArray) (i : Nat) (hi : i < s.size) (hs : s.size ≤ 140737488351232) (w0 w : World) (hI : IsS37 w0 w g s i) (hB : Below w0.heap.size w0 w) (hl : isLetter (s[i]'hi) = false) (hd : isDigit (s[i]'hi) = false) (hc : s[i]'hi = 39) :
  Calls Try.prog 32 #[.pointer (some ⟨g, 0, none⟩)] w fun e w' => ∃ t ok j, e = .returned (.tuple #[.agg #[.int .i64 5, .string t, .int .i64 i], .bool ok]) ∧ Quoted s i t ok j ∧ IsS37 w0 w' g s (j : Nat) ∧ Below w0.heap.size w0 w' ∧ KeepBut w w' g none := by
 have hb39 : (((s[i]'hi).toNat : Int) == 39) = true := by rw [hc]; rfl
 replace hc := Aside0.mk hc
 have hu28 := Try.underlying64
 have hc1 := cellS37_1 hI.1
 have hlg := Aside0.mk hI.lt
 have hlw := Aside0.mk hB.size
 go_enter Try.func32, Try.ntmps32
 go_wp2_with (first | ((with_reducible refine gate_dst (N := 2) rfl ?_); (try (refine gate_guard (by rfl) ?_; dsimp only)); refine box_event ?hg (N := 2) ?hd (cs := #[.int .i64 0, .string ⟨#[]⟩, .int .i64 0]) (t := 64) ?hr ?_; (case hd => rfl); (case hg => rfl); (case hr => first | (go_simp; done) | (go_simp; rfl)); intro b2 hg2 wa2 hx2 ha2; replace hg2 := Aside0.mk hg2; have hI2 := hI.below ha2; clear hc1; have hc1 := cellS37_1 hI2.1) | ((with_reducible refine gate_dst (N := 4) rfl ?_); (try (refine gate_guard (by rfl) ?_; dsimp only)); refine box_event ?hg (N := 4) ?hd (cs := #[.int .i64 0, .string ⟨#[]⟩, .int .i64 0]) (t := 64) ?hr ?_; (case hd => rfl); (case hg => rfl); (case hr => first | (go_simp; done) | (go_simp; rfl)); intro b4 hg4 wa4 hx4 ha4; replace hg4 := Aside0.mk hg4; have hS4 := St.start hI hB hlg.out hg2.out hx2 ha2 hg4.out hx4 ha4; clear hc1; have hf40 := blk_frozen hx4 0; have hf41 := blk_frozen hx4 1; have hf42 := blk_frozen hx4 2; have hk40 := (blk_cell hx4 0).trans rfl; have hk41 := (blk_cell hx4 1).trans rfl; have hk42 := (blk_cell hx4 2).trans rfl))
 replace hS4 := Aside0.mk (((hS4.kind 0).text ⟨#[]⟩).place i)
 generalize (((wa4.setCell ⟨b4, 0, none⟩ (.int .i64 0)).setCell ⟨b4, 1, none⟩ (.string ⟨#[]⟩)).setCell ⟨b4, 2, none⟩ (.int .i64 i)) = W4 at hS4 ⊢
 clear hf40 hf41 hf42 hk40 hk41 hk42 hg2 hg4 hx2 hx4 ha2 ha4 hI2 hlg hlw wa2 wa4
 have hc0 := cellS37_0 hS4.out.isS.1
 have hc1 := cellS37_1 hS4.out.isS.1
 have a := eq_true (show (0 : Int) ≤ (i : Int) from by omega)
 have b := eq_true (show (i : Int) < (s.size : Int) from by omega)
 go_wp2
 repeat (go_quiet (fail); try go_wp2_with (first | (go_at_call 39; refine (tests_letter (s[i]'hi) _).mono ?_; rintro e c ⟨rfl, hb5⟩; rw [hl]; have hS5 := Aside0.mk ((hS4.out.drewN _).below hb5); clear hb5 hc0 hc1) | (go_at_call 42; refine (tests_digit (s[i]'hi) _).mono ?_; rintro e d ⟨rfl, hb6⟩; rw [hd]; have hS6 := Aside0.mk (hS5.out.below hb6); clear hb6; have hk0 := (blk_cell hS6.out.c4 0).trans rfl; have hf0 := blk_frozen hS6.out.c4 0) | (go_at_call 44; refine (lex_quoted.calls g s i (Nat.le_of_lt hi) hs w0 _ (hS6.out.kind 5).isS (hS6.out.kind 5).bel).mono ?_; rintro e k ⟨t, ok, j, rfl, hQ, hI_, hB_, hK_⟩; have hS7 := Aside0.mk ((hS6.out.kind 5).call hI_ hB_ hK_); clear hI_ hB_ hK_ hk0 hf0; replace hQ := Aside0.mk hQ; have hr0 := (blk_cell hS7.out.c2 0).trans rfl; have hr1 := (blk_cell hS7.out.c2 1).trans rfl; have hr2 := (blk_cell hS7.out.c2 2).trans rfl; have hq0 := blk_frozen hS7.out.c2 0; have hq1 := blk_frozen hS7.out.c2 1; have hq2 := blk_frozen hS7.out.c2 2; have hne := hS7.out.ne; have hne2 := Ne.symm hne; have hk0 := (blk_cell hS7.out.c4 0).trans rfl; have hk1x := (blk_cell hS7.out.c4 1).trans rfl; have hk2x := (blk_cell hS7.out.c4 2).trans rfl; have hf1 := blk_frozen hS7.out.c4 1)))
 have hD := (hS7.out.text t).done rfl
 refine bodyPost_ret (results_ct3 rfl _ _ b2 64 _ (0, 0) _ rfl hD.1 hu28 rfl rfl) rfl ?_
 exact ⟨t, ok, j, rfl, hQ.out, hD.2.1, hD.2.2.1, hD.2.2.2⟩
theorem lex_word.symbol (g : Nat) (s : ByteArray) (i : Nat) (hi : i < s.size) (hs : s.size ≤ 140737488351232) (w0 w : World) (hI : IsS37 w0 w g s i) (hB : Below w0.heap.size w0 w) (hl : isLetter (s[i]'hi) = false) (hd : isDigit (s[i]'hi) = false) (hc : s[i]'hi = 35) (hp : ¬ byteAt s (i + 1) = 40) :
  Calls Try.prog 32 #[.pointer (some ⟨g, 0, none⟩)] w fun e w' => ∃ t ok j, e = .returned (.tuple #[.agg #[.int .i64 6, .string t, .int .i64 i], .bool ok]) ∧ Symboled s (i + 1) t ok j ∧ IsS37 w0 w' g s (j : Nat) ∧ Below w0.heap.size w0 w' ∧ KeepBut w w' g none := by
 have hb35 : (((s[i]'hi).toNat : Int) == 35) = true := by rw [hc]; rfl
 have hb39 : (((s[i]'hi).toNat : Int) == 39) = false := by rw [hc]; rfl
 have hp1 : (byteAt s (i + 1) == 40) = false := beq_eq_false_iff_ne.2 hp
 replace hc := Aside0.mk hc
 replace hp := Aside0.mk hp
 obtain ⟨m, hm⟩ : ∃ m, i + 1 = m := ⟨_, rfl⟩
 rw [hm]
 have hml : m ≤ s.size := by omega
 have him : i ≤ m := by omega
 have hwk := wrap_in ((i : Int) + 1) (by omega) (by omega)
 have hwk1 := hwk.1
 have hwk2 := hwk.2
 clear hwk
 replace hm := Aside0.mk hm
 have hu28 := Try.underlying64
 have hc1 := cellS37_1 hI.1
 have hlg := Aside0.mk hI.lt
 have hlw := Aside0.mk hB.size
 go_enter Try.func32, Try.ntmps32
 go_wp2_with (first | ((with_reducible refine gate_dst (N := 2) rfl ?_); (try (refine gate_guard (by rfl) ?_; dsimp only)); refine box_event ?hg (N := 2) ?hd (cs := #[.int .i64 0, .string ⟨#[]⟩, .int .i64 0]) (t := 64) ?hr ?_; (case hd => rfl); (case hg => rfl); (case hr => first | (go_simp; done) | (go_simp; rfl)); intro b2 hg2 wa2 hx2 ha2; replace hg2 := Aside0.mk hg2; have hI2 := hI.below ha2; clear hc1; have hc1 := cellS37_1 hI2.1) | ((with_reducible refine gate_dst (N := 4) rfl ?_); (try (refine gate_guard (by rfl) ?_; dsimp only)); refine box_event ?hg (N := 4) ?hd (cs := #[.int .i64 0, .string ⟨#[]⟩, .int .i64 0]) (t := 64) ?hr ?_; (case hd => rfl); (case hg => rfl); (case hr => first | (go_simp; done) | (go_simp; rfl)); intro b4 hg4 wa4 hx4 ha4; replace hg4 := Aside0.mk hg4; have hS4 := St.start hI hB hlg.out hg2.out hx2 ha2 hg4.out hx4 ha4; clear hc1; have hf40 := blk_frozen hx4 0; have hf41 := blk_frozen hx4 1; have hf42 := blk_frozen hx4 2; have hk40 := (blk_cell hx4 0).trans rfl; have hk41 := (blk_cell hx4 1).trans rfl; have hk42 := (blk_cell hx4 2).trans rfl))
 replace hS4 := Aside0.mk (((hS4.kind 0).text ⟨#[]⟩).place i)
 generalize (((wa4.setCell ⟨b4, 0, none⟩ (.int .i64 0)).setCell ⟨b4, 1, none⟩ (.string ⟨#[]⟩)).setCell ⟨b4, 2, none⟩ (.int .i64 i)) = W4 at hS4 ⊢
 clear hf40 hf41 hf42 hk40 hk41 hk42 hg2 hg4 hx2 hx4 ha2 ha4 hI2 hlg hlw wa2 wa4
 have hc0 := cellS37_0 hS4.out.isS.1
 have hc1 := cellS37_1 hS4.out.isS.1
 have a := eq_true (show (0 : Int) ≤ (i : Int) from by omega)
 have b := eq_true (show (i : Int) < (s.size : Int) from by omega)
 go_wp2
 repeat (go_quiet (fail); try go_wp2_with (first | (go_at_call 39; refine (tests_letter (s[i]'hi) _).mono ?_; rintro e c ⟨rfl, hb5⟩; rw [hl]; have hS5 := Aside0.mk ((hS4.out.drewN _).below hb5); clear hb5 hc0 hc1) | (go_at_call 42; refine (tests_digit (s[i]'hi) _).mono ?_; rintro e d ⟨rfl, hb6⟩; rw [hd]; have hS6 := Aside0.mk (hS5.out.below hb6); clear hb6) | (go_at_call 45; refine (lex_peek.calls g s i 1 (Nat.le_of_lt hi) (by omega) hs w0 _ hS6.out.isS hS6.out.bel).mono ?_; rintro e k ⟨rfl, hI_, hB_, hK_⟩; have hS9 := Aside0.mk (hS6.out.call hI_ hB_ hK_); clear hI_ hB_ hK_; have hk0 := (blk_cell hS9.out.c4 0).trans rfl; have hf0 := blk_frozen hS9.out.c4 0; have hcg := cellS37_1 hS9.out.isS.1; have hfg := blk_frozen hS9.out.isS.1 1; have hgn := hS9.out.ne4; have hgn2 := Ne.symm hgn) | (go_at_call 46; refine (lex_symbol.calls g s m hml hs w0 _ (hm.out ▸ (hS9.out.kind 6).at1).isS (hm.out ▸ (hS9.out.kind 6).at1).bel).mono ?_; rintro e l ⟨t, ok, j, rfl, hQ, hI_, hB_, hK_⟩; have hS7 := Aside0.mk (((hS9.out.kind 6).at1).call hI_ hB_ hK_); clear hI_ hB_ hK_ hk0 hf0 hcg hfg hgn hgn2; replace hQ := Aside0.mk hQ; have hr0 := (blk_cell hS7.out.c2 0).trans rfl; have hr1 := (blk_cell hS7.out.c2 1).trans rfl; have hr2 := (blk_cell hS7.out.c2 2).trans rfl; have hq0 := blk_frozen hS7.out.c2 0; have hq1 := blk_frozen hS7.out.c2 1; have hq2 := blk_frozen hS7.out.c2 2; have hne := hS7.out.ne; have hne2 := Ne.symm hne; have hk0 := (blk_cell hS7.out.c4 0).trans rfl; have hk1x := (blk_cell hS7.out.c4 1).trans rfl; have hk2x := (blk_cell hS7.out.c4 2).trans rfl; have hf1 := blk_frozen hS7.out.c4 1)))
 have hD := (hS7.out.text t).done rfl
 refine bodyPost_ret (results_ct3 rfl _ _ b2 64 _ (0, 0) _ rfl hD.1 hu28 rfl rfl) rfl ?_
 exact ⟨t, ok, j, rfl, hQ.out, hD.2.1, hD.2.2.1, hD.2.2.2⟩
end Go.Proofs.Ytpodpmjlkbbkoaa.P
