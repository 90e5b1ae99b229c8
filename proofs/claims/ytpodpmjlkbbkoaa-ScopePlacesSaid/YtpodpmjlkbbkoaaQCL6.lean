import Derived.Test.YtpodpmjlkbbkoaaQCL4
import Derived.WalkMore
import Derived.ScopeJumps
set_option linter.all false
set_option maxHeartbeats 16000000
set_option maxRecDepth 100000
namespace Go.Proofs.Ytpodpmjlkbbkoaa.P
open Go.RowKit Go.Proofs.YtpodpmjlkbbkoaaW.PrintWords Go.Proofs.YtpodpmjlkbbkoaaW.PrintLast Go.Proofs.YtpodpmjlkbbkoaaW.PrintMore
def byteAt (s : ByteArray) (i : Nat) : Int := if h : i < s.size then ((s[i]'h).toNat : Int) else 0
def is39 (c : UInt8) : Bool := c == 39
theorem byteAt_is (s : ByteArray) (i : Nat) (c : UInt8) (h0 : c.toNat ≠ 0) : (byteAt s i == (c.toNat : Int)) = hit (· == c) s i := by
 unfold byteAt hit
 split
 ·rw [Bool.eq_iff_iff]
  simp only [beq_iff_eq]
  constructor
  ·intro h; exact UInt8.toNat_inj.1 (by omega)
  ·intro h; rw [h]
 ·simp only [beq_eq_false_iff_ne, ne_eq]
  omega
theorem lex_peek.calls (g : Nat) (s : ByteArray) (i : Nat) (n : Nat) (hi : i ≤ s.size) (hn : n ≤ 8) (hs : s.size ≤ 140737488351232) (w0 w : World) (hI : IsS37 w0 w g s i) (hB : Below w0.heap.size w0 w) :
  Calls Try.prog 45 #[.pointer (some ⟨g, 0, none⟩), .int .i64 (n : Int)] w fun e w' => e = .returned (.int .u8 (byteAt s (i + n))) ∧ IsS37 w0 w' g s i ∧ Below w0.heap.size w0 w' ∧ KeepBut w w' g none := by
 refine lex_reader_peek.calls g s i n (byteAt s (i + n)) s i w0 w hI hB ?_
 have hw := (wrap_in ((i : Int) + n) (by omega) (by omega)).1
 unfold lex_reader_peek.f
 rw [hw]
 split
 case isTrue h =>
  rw [if_pos (by omega)]
  have : bt s ((i : Int) + n) = byteAt s (i + n) := by
   unfold bt byteAt
   have e : ((i : Int) + n).toNat = i + n := by omega
   simp only [e]
  rw [this]
 case isFalse h =>
  unfold byteAt
  rw [dif_neg (by omega)]
theorem isB_keep {T e : TypeId} {B b : Nat} {bs : List Value} {w w' : World} (h : Lib.IsBuilderF T e B b bs w) (hk : ∀ k o, B ≤ k → w.heap[k]? = some o → w'.heap[k]? = some o) : Lib.IsBuilderF T e B b bs w' := by
 have go : ∀ p, Lib.BuilderAtF T e B b p bs w → Lib.BuilderAtF T e B b p bs w' := by
  intro p h
  obtain ⟨hB, v, hb, hown, hne⟩ := h
  refine ⟨hB, v, hk b _ hB hb, ⟨hown.1, ?_⟩, hne⟩
  rcases hown.2 with h0 | ⟨g, cap, cur, fz, hv, hg, hh, rest⟩
  ·exact .inl h0
  ·exact .inr ⟨g, cap, cur, fz, hv, hg, hk g _ hg hh, rest⟩
 exact h.elim (fun x => .inl (go _ x)) (fun x => .inr (go _ x))
def quoL (s : ByteArray) (i : Nat) (acc : List UInt8) : Option (List UInt8 × Nat) :=
 if h : i < s.size then
  if s[i]'h = 39 then
   if hit (· == 39) s (i + 1) then quoL s (i + 2) (acc ++ [39]) else some (acc, i + 1)
  else quoL s (i + 1) (acc ++ [s[i]'h])
 else none
 termination_by s.size - i
def quo (s : ByteArray) (i : Nat) : Option (List UInt8 × Nat) := if hit (· == 39) s i then quoL s (i + 1) [] else none
def Quoted (s : ByteArray) (i : Nat) (t : ByteArray) (ok : Bool) (j : Nat) : Prop :=
 match quo s i with
 | some (l, k) => t = ⟨l.toArray⟩ ∧ ok = decide (l.length ≤ 1024) ∧ j = k
 | none => t = ⟨#[]⟩ ∧ ok = false ∧ j ≤ s.size
theorem keepHi {w w1 w2 : World} {g b : Nat} (h : KeepBut w w1 g none) (k : Below b w1 w2) (hb : w.heap.size ≤ b) : KeepBut w w2 g none :=
 ⟨Nat.le_trans h.1 k.size, fun i hi hg hr => (k.block i (by omega)).trans (h.2 i hi hg hr)⟩
theorem isS_hi {w0 w1 w2 : World} {g b : Nat} {s : ByteArray} {j : Int} (h : IsS37 w0 w1 g s j) (k : Below b w1 w2) (hb : g < b) : IsS37 w0 w2 g s j :=
 ⟨(k.block g hb).trans h.1, h.2⟩
theorem below_hi {w0 w1 w2 : World} {b : Nat} (h : Below w0.heap.size w0 w1) (k : Below b w1 w2) (hb : w0.heap.size ≤ b) : Below w0.heap.size w0 w2 := h.trans (k.mono hb)
def BadAt (w0 w : World) (g : Nat) (s : ByteArray) (a : Act) (w' : World) : Prop :=
 (∃ u0 u1 u2 u3 u4 u5 u6 u7 u8 u9 u10 u11 u12 u13 u14 u15 u16 u17 u18 u19 u20 u21 u22 u23 u24 u25 u26 u27 u28 u29 u30 u31 u32 u33 u34 u35 u36 u37 u38 u39 u40 u41 u42 u43 u44 u45 u46 u47 u48 u49 u50 u51 u52 u53 u54 u55 u56 u57 u58 u59 u60 u61 u62 u63 u64 u65 u66 u67 u68 u69 u70 u71 : Value, a = { tmps := #[u0, u1, u2, u3, u4, u5, u6, u7, u8, u9, u10, u11, u12, u13, u14, u15, u16, u17, u18, u19, u20, u21, u22, u23, u24, u25, u26, u27, u28, u29, u30, u31, u32, u33, u34, u35, u36, u37, u38, u39, u40, u41, u42, u43, u44, u45, u46, u47, u48, u49, u50, u51, u52, u53, u54, u55, u56, u57, u58, u59, u60, u61, u62, u63, u64, u65, u66, u67, u68, u69, u70, u71], defers := [] }) ∧ ∃ j : Nat, Aside0 (j ≤ s.size ∧ IsS37 w0 w' g s (j : Nat) ∧ Below w0.heap.size w0 w' ∧ KeepBut w w' g none)
theorem quoL_end {s : ByteArray} {j : Nat} {acc : List UInt8} (h : ¬ j < s.size) : quoL s j acc = none := by rw [quoL, dif_neg h]
theorem quoL_shut {s : ByteArray} {j : Nat} {acc : List UInt8} (h : j < s.size) (hc : s[j]'h = 39) (hh : hit (· == (39 : UInt8)) s (j + 1) = false) : quoL s j acc = some (acc, j + 1) := by rw [quoL, dif_pos h, if_pos hc, if_neg (by simp [hh])]
theorem quoL_two {s : ByteArray} {j : Nat} {acc : List UInt8} (h : j < s.size) (hc : s[j]'h = 39) (hh : hit (· == (39 : UInt8)) s (j + 1) = true) : quoL s j acc = quoL s (j + 2) (acc ++ [39]) := by rw [quoL, dif_pos h, if_pos hc, if_pos hh]
theorem quoL_one {s : ByteArray} {j : Nat} {acc : List UInt8} (h : j < s.size) (hc : ¬ s[j]'h = 39) : quoL s j acc = quoL s (j + 1) (acc ++ [s[j]'h]) := by rw [quoL, dif_pos h, if_neg hc]
theorem lex_quoted.bad (g : Nat) (s : ByteArray) (i : Nat) (hi : i ≤ s.size) (hs : s.size ≤ 140737488351232) (w0 w : World) (hI : IsS37 w0 w g s i) (hB : Below w0.heap.size w0 w) (hh : hit (· == (39 : UInt8)) s i = false) :
  Calls Try.prog 44 #[.pointer (some ⟨g, 0, none⟩)] w fun e w' => ∃ t ok j, e = .returned (.tuple #[.string t, .bool ok]) ∧ Quoted s i t ok j ∧ IsS37 w0 w' g s (j : Nat) ∧ Below w0.heap.size w0 w' ∧ KeepBut w w' g none := by
 have hq := byteAt_is s i 39 (by decide)
 rw [hh] at hq
 have hq2 : (byteAt s i != 39) = true := by rw [bne]; exact congrArg (!·) hq
 have hu72 := Try.underlying110
 go_enter Try.func44, Try.ntmps44
 go_wp2
 refine wp_scope_jumps 0 (BadAt w0 w g s) (fun _ _ => 0) rfl ?_ ?_
 ·go_wp2_with (first | ((with_reducible refine gate_dst (N := 4) rfl ?_); (try (refine gate_guard (by rfl) ?_; dsimp only)); refine box_event ?hg (N := 4) ?hd (cs := #[.pointer none, .slice none 0 0]) (t := 110) ?hr ?_; (case hd => rfl); (case hg => rfl); (case hr => first | (go_simp; done) | (go_simp; rfl)); intro b hgb0 wa a hba; have hgb := Aside0.mk hgb0; clear hgb0) | (go_at_call 45; refine (lex_peek.calls g s i 0 hi (by omega) hs w0 _ (hI.below hba) (bS0 hB hba)).mono ?_; rintro e c ⟨rfl, hI1, hB1, hK1⟩))
  go_step3
  exact ⟨rfl, ⟨_, _, _, _, _, _, _, _, _, _, _, _, _, _, _, _, _, _, _, _, _, _, _, _, _, _, _, _, _, _, _, _, _, _, _, _, _, _, _, _, _, _, _, _, _, _, _, _, _, _, _, _, _, _, _, _, _, _, _, _, _, _, _, _, _, _, _, _, _, _, _, _, rfl⟩, i, ⟨hi, hI1, hB1, (KeepBut.of_below hba g none).trans hK1 (.inl rfl)⟩⟩
 ·rintro a' w' ⟨⟨u0, u1, u2, u3, u4, u5, u6, u7, u8, u9, u10, u11, u12, u13, u14, u15, u16, u17, u18, u19, u20, u21, u22, u23, u24, u25, u26, u27, u28, u29, u30, u31, u32, u33, u34, u35, u36, u37, u38, u39, u40, u41, u42, u43, u44, u45, u46, u47, u48, u49, u50, u51, u52, u53, u54, u55, u56, u57, u58, u59, u60, u61, u62, u63, u64, u65, u66, u67, u68, u69, u70, u71, rfl⟩, j, ⟨hj, hIj, hBj, hKj⟩⟩
  go_wp2
  simp only [Exit.jump]
  go_ret2
  refine ⟨_, _, j, rfl, ?_, hIj, hBj, hKj⟩
  unfold Quoted quo
  rw [hh]
  exact ⟨rfl, rfl, hj⟩
theorem quo_next {w0 w w3 wd w4 : World} {g b m : Nat} {s : ByteArray} {acc : List UInt8} {x : UInt8} (hg : g < b) (hwb : w.heap.size ≤ b) (hw0 : w0.heap.size ≤ b) (HB3 : Below w0.heap.size w0 w3) (HK3 : KeepBut w w3 g none)
  (hbd : Below w3.heap.size w3 wd) (hB4 : Below b wd w4) (HS2 : b ≤ w3.heap.size) (hI4 : IsS37 w0 w4 g s m) (hb4 : Lib.BuilderAtF 110 5 b b (.pointer (some ⟨b, 0, none⟩)) (Lib.byteCells acc ++ [.int .u8 x.toNat]) w4) :
  Aside0 (IsS37 w0 (w4.setCell ⟨g, 1, none⟩ (.int .i64 ((m : Int) + 1))) g s ((m + 1 : Nat) : Int) ∧ Below w0.heap.size w0 (w4.setCell ⟨g, 1, none⟩ (.int .i64 ((m : Int) + 1))) ∧ KeepBut w (w4.setCell ⟨g, 1, none⟩ (.int .i64 ((m : Int) + 1))) g none) ∧
  Aside0 (Lib.IsBuilderF 110 5 b b (Lib.byteCells (acc ++ [x])) (w4.setCell ⟨g, 1, none⟩ (.int .i64 ((m : Int) + 1))) ∧ b ≤ (w4.setCell ⟨g, 1, none⟩ (.int .i64 ((m : Int) + 1))).heap.size) := by
 refine ⟨⟨?_, ?_, ?_⟩, ⟨?_, ?_⟩⟩
 ·have := hI4.set_1 ((m : Int) + 1)
  simpa using this
 ·exact below_set (below_hi (bS0 HB3 hbd) hB4 hw0) (IsS37.ge hI4)
 ·exact (keepHi (keepB HK3 hbd) hB4 hwb).set_ _ _
 ·refine isB_keep (w := w4) (.inr ?_) (fun k o hk ho => ?_)
  ·rw [Lib.byteCells_append]
   exact hb4
  ·rw [Below.heap_setCell _ _ _ _ (by simp; omega)]
   exact ho
 ·have := hbd.size
  have := hB4.size
  simp [World.setCell]
  omega
theorem lex_quoted.good (g : Nat) (s : ByteArray) (i : Nat) (hi : i ≤ s.size) (hs : s.size ≤ 140737488351232) (w0 w : World) (hI : IsS37 w0 w g s i) (hB : Below w0.heap.size w0 w) (hh : hit (· == (39 : UInt8)) s i = true) :
  Calls Try.prog 44 #[.pointer (some ⟨g, 0, none⟩)] w fun e w' => ∃ t ok j, e = .returned (.tuple #[.string t, .bool ok]) ∧ Quoted s i t ok j ∧ IsS37 w0 w' g s (j : Nat) ∧ Below w0.heap.size w0 w' ∧ KeepBut w w' g none := by
 have hq := byteAt_is s i 39 (by decide)
 rw [hh] at hq
 have hq2 : (byteAt s i != 39) = false := by rw [bne]; exact congrArg (!·) hq
 have hgw := Aside0.mk hI.lt
 have hu72 := Try.underlying110
 have hlt := hit_lt hh
 have hwi := wrap_in ((i : Int) + 1) (by omega) (by omega)
 have hwi1 := hwi.1
 have hwi2 := hwi.2
 clear hwi
 have hil := Aside0.mk hlt
 clear hlt
 go_enter Try.func44, Try.ntmps44
 go_wp2
 go_step3
 go_wp2_with (first | ((with_reducible refine gate_dst (N := 4) rfl ?_); (try (refine gate_guard (by rfl) ?_; dsimp only)); refine box_event ?hg (N := 4) ?hd (cs := #[.pointer none, .slice none 0 0]) (t := 110) ?hr ?_; (case hd => rfl); (case hg => rfl); (case hr => first | (go_simp; done) | (go_simp; rfl)); intro b hgb0 wa n hba; have hgb := Aside0.mk hgb0; clear hgb0) | (go_at_call 45; refine (lex_peek.calls g s i 0 hi (by omega) hs w0 _ (hI.below hba) (bS0 hB hba)).mono ?_; rintro e p ⟨rfl, hI1, hB1, hK1⟩; have hc1 := cellS37_1 hI1.1; have hf1 := blk_frozen hI1.1 1))
 have HBb := Aside0.mk (isB_keep (T := 110) (e := 5) (B := b) (b := b) (bs := Lib.byteCells []) (w := wa) (w' := p.setCell ⟨g, 1, none⟩ (.int .i64 ((i : Int) + 1))) (.inl ⟨Nat.le_refl _, _, n, World.ownsRowF_nil _ _ _ _, by simp [Value.ownBlock]⟩) (fun k o hk ho => by
  have := hgw.out
  have := hgb.out
  rw [Below.heap_setCell _ _ _ _ (by simp; omega)]
  exact (hK1.2 k (blk_lt ho) (by omega) (by simp)).trans ho))
 have HSz := Aside0.mk (show b ≤ (p.setCell ⟨g, 1, none⟩ (.int .i64 ((i : Int) + 1))).heap.size from by
  have := hK1.1
  have := hgb.out
  have := hba.size
  simp [World.setCell]
  omega)
 go_loopw [] (fun w' => ∃ (j : Nat) (acc : List UInt8), Aside0 (IsS37 w0 w' g s (j : Int) ∧ Below w0.heap.size w0 w' ∧ KeepBut w w' g none) ∧ Aside0 (Lib.IsBuilderF 110 5 b b (Lib.byteCells acc) w' ∧ b ≤ w'.heap.size) ∧ Aside0 (j ≤ s.size ∧ acc.length ≤ j ∧ quoL s j acc = quoL s (i + 1) [])) (fun w' => s.size - atOf w' g)
 case atStart =>
  refine ⟨i + 1, [], ⟨?_, below_set hB1 (IsS37.ge hI1), ?_⟩, ⟨HBb.out, HSz.out⟩, ⟨hil.out, by simp, rfl⟩⟩
  ·have := hI1.set_1 ((i : Int) + 1)
   simpa using this
  ·exact ((KeepBut.of_below hba g none).trans hK1 (.inl rfl)).set_ _ _
 case round =>
  clear HBb HSz hc1 hf1
  obtain ⟨j, acc, ⟨hIj, hBj, hKj⟩, ⟨hbj, hbs⟩, ⟨hj, hal, hqj⟩⟩ := hrel
  have hm0 := Aside0.mk (atOf_is hIj)
  have hcj0 := cellS37_0 hIj.1
  have hcj1 := cellS37_1 hIj.1
  by_cases hlt : j < s.size
  ·have r : decide ((j : Int) < (s.size : Int)) = true := decide_eq_true (by omega)
   have hwj := wrap_in ((j : Int) + 1) (by omega) (by omega)
   have hwj1 := hwj.1
   have hwj2 := hwj.2
   clear hwj
   have u := eq_true (show (0 : Int) ≤ (j : Int) from by omega)
   have v := eq_true (show (j : Int) < (s.size : Int) from by omega)
   by_cases hc : s[j]'hlt = 39
   ·have hcb : (((s[j]'hlt).toNat : Int) == 39) = true := by rw [hc]; rfl
    have hp := byteAt_is s (j + 1) 39 (by decide)
    cases hh1 : hit (· == (39 : UInt8)) s (j + 1)
    ·have hp2 : (byteAt s (j + 1) != 39) = true := by rw [hh1] at hp; rw [bne]; exact congrArg (!·) hp
     have hla := Aside0.mk hlt
     go_wp2
     repeat (go_quiet (fail); try go_wp2_with (go_at_call 45; refine (lex_peek.calls g s j 1 hj (by omega) hs w0 _ (IsS37.drewN hIj _) (pw_below_drewN hBj _)).mono ?_; rintro e d ⟨rfl, hI2, hB2, hK2⟩; clear hcj0 hcj1; have hc2 := cellS37_1 hI2.1; have hf2 := blk_frozen hI2.1 1))
     have HSt := Aside0.mk (isB_keep (w' := d.setCell ⟨g, 1, none⟩ (.int .i64 ((j : Int) + 1))) hbj (fun k o hk ho => by
      have := hgw.out
      have := hgb.out
      rw [Below.heap_setCell _ _ _ _ (by simp; omega)]
      exact (hK2.2 k (blk_lt ho) (by omega) (by simp)).trans ho))
     have HS2 := Aside0.mk (show b ≤ (d.setCell ⟨g, 1, none⟩ (.int .i64 ((j : Int) + 1))).heap.size from by
      have := hK2.1
      simp [World.setCell] at this ⊢
      omega)
     have a := Aside0.mk (show IsS37 w0 (d.setCell ⟨g, 1, none⟩ (.int .i64 ((j : Int) + 1))) g s ((j + 1 : Nat) : Int) from by have := hI2.set_1 ((j : Int) + 1); simpa using this)
     have HB3 := Aside0.mk (show Below w0.heap.size w0 (d.setCell ⟨g, 1, none⟩ (.int .i64 ((j : Int) + 1))) from below_set hB2 (IsS37.ge hI2))
     have c := Aside0.mk (((keep_drewN hKj _).trans hK2 (.inl rfl)).set_ 1 (.int .i64 ((j : Int) + 1)))
     go_wp2_with (first | (go_at_call 58; refine (Try.Builder_String_any_k b b acc _ HSt.out HS2.out).mono ?_; rintro e l ⟨rfl, hb3, hB3, hO3⟩) | (go_at_call 59; refine (Try.Builder_Len_f b b _ _ hb3).mono ?_; rintro e q ⟨rfl, rfl⟩; rw [Lib.byteCells_length]))
     rw [Exit.noGoto_ret]
     go_ret2
     have hgb1 := hgb.out
     have hgw1 := hgw.out
     refine ⟨_, _, j + 1, rfl, ?_, isS_hi a.out hB3 (by omega), below_hi HB3.out hB3 (by have := hB.size; omega), keepHi c.out hB3 (by omega)⟩
     unfold Quoted quo
     rw [hh, if_pos rfl, ← hqj, quoL_shut hla.out hc hh1]
     exact ⟨rfl, (show decide ((acc.length : Int) ≤ 1024) = decide (acc.length ≤ 1024) from decide_eq_decide.2 (by omega)), rfl⟩
    ·have hp2 : (byteAt s (j + 1) != 39) = false := by rw [hh1] at hp; rw [bne]; exact congrArg (!·) hp
     have hla := Aside0.mk hlt
     have hlb := hit_lt hh1
     have hc9 : s[j + 1]'hlb = 39 := by
      have h9 := hh1
      unfold hit at h9
      rw [dif_pos hlb] at h9
      simpa using h9
     go_wp2
     repeat (go_quiet (fail); try go_wp2_with (go_at_call 45; refine (lex_peek.calls g s j 1 hj (by omega) hs w0 _ (IsS37.drewN hIj _) (pw_below_drewN hBj _)).mono ?_; rintro e d ⟨rfl, hI2, hB2, hK2⟩; clear hcj0 hcj1; have hc2 := cellS37_1 hI2.1; have hf2 := blk_frozen hI2.1 1))
     clear hc2 hf2
     have HSt := Aside0.mk (isB_keep (w' := d.setCell ⟨g, 1, none⟩ (.int .i64 ((j : Int) + 1))) hbj (fun k o hk ho => by
      have := hgw.out
      have := hgb.out
      rw [Below.heap_setCell _ _ _ _ (by simp; omega)]
      exact (hK2.2 k (blk_lt ho) (by omega) (by simp)).trans ho))
     have HS2 := Aside0.mk (show b ≤ (d.setCell ⟨g, 1, none⟩ (.int .i64 ((j : Int) + 1))).heap.size from by
      have := hK2.1
      simp [World.setCell] at this ⊢
      omega)
     have a := Aside0.mk (show IsS37 w0 (d.setCell ⟨g, 1, none⟩ (.int .i64 ((j : Int) + 1))) g s ((j + 1 : Nat) : Int) from by have := hI2.set_1 ((j : Int) + 1); simpa using this)
     have HB3 := Aside0.mk (show Below w0.heap.size w0 (d.setCell ⟨g, 1, none⟩ (.int .i64 ((j : Int) + 1))) from below_set hB2 (IsS37.ge hI2))
     have c := Aside0.mk (((keep_drewN hKj _).trans hK2 (.inl rfl)).set_ 1 (.int .i64 ((j : Int) + 1)))
     generalize d.setCell ⟨g, 1, none⟩ (.int .i64 ((j : Int) + 1)) = l at HSt HS2 a HB3 c ⊢
     clear u v hwj1 hwj2
     obtain ⟨m, hm⟩ : ∃ m, j + 1 = m := ⟨_, rfl⟩
     rw [hm] at a
     have hm9 : s[m]'(by omega) = 39 := by subst hm; exact hc9
     have hmlt : m < s.size := by omega
     refine still_letter 9 (by kernel_rfl) (by kernel_rfl) ?_
     intro wd hwd hbd
     simp only [List.take_succ_cons, List.take_zero, List.drop_succ_cons, List.drop_zero]
     have hcd0 := cellS37_0 (a.out.below hbd).1
     have hcd1 := cellS37_1 (a.out.below hbd).1
     repeat still_step
     refine wpStill_nil ?_
     clear hcd0 hcd1
     go_wp2_with (go_at_call 60; refine (Try.Builder_WriteByte_k b b (Lib.byteCells acc) _ _ (isB_keep HSt.out (fun k o hk ho => by rw [hwd]; exact ho)) (by rw [Lib.byteCells_length]; omega) (by rw [hwd]; exact HS2.out)).mono ?_; rintro e q ⟨rfl, hb4, hB4, hO4⟩; have hI4 := isS_hi (a.out.below hbd) hB4 (by have := hgw.out; have := hgb.out; omega); have hc4x := cellS37_1 hI4.1; have hf4x := blk_frozen hI4.1 1)
     go_roundw
     case rel =>
      obtain ⟨r1, r2⟩ := quo_next (by have := hgw.out; have := hgb.out; omega) (by have := hgb.out; omega) (by have := hgb.out; have := hB.size; omega) HB3.out c.out hbd hB4 HS2.out hI4 (x := 39) hb4
      refine ⟨m + 1, acc ++ [39], r1, r2, ⟨hmlt, by simp; omega, ?_⟩⟩
      rw [← hqj, quoL_two hla.out hc hh1, ← hm]
     case measure =>
      rw [hm0.out, atOf_is (i := m + 1) (w0 := w0) (s := s) (by have := hI4.set_1 ((m : Int) + 1); simpa using this)]
      omega
   ·have hcb : (((s[j]'hlt).toNat : Int) == 39) = false := beq_eq_false_iff_ne.2 fun h => hc (UInt8.toNat_inj.1 (by simpa using (by omega : (s[j]'hlt).toNat = 39)))
    have hla := Aside0.mk hlt
    go_wp2
    repeat (go_quiet (fail); try go_wp2)
    clear hcj0 hcj1
    generalize hwx : World.drewN (World.drewN wr _) _ = l
    have a := Aside0.mk (show IsS37 w0 l g s (j : Int) from hwx ▸ IsS37.drewN (IsS37.drewN hIj _) _)
    have HB3 := Aside0.mk (show Below w0.heap.size w0 l from hwx ▸ pw_below_drewN (pw_below_drewN hBj _) _)
    have c := Aside0.mk (show KeepBut w l g none from hwx ▸ keep_drewN (keep_drewN hKj _) _)
    have HSt := Aside0.mk (isB_keep (w' := l) hbj (fun k o hk ho => by rw [← hwx]; exact ho))
    have HS2 := Aside0.mk (show b ≤ l.heap.size from hwx ▸ hbs)
    clear hwx
    refine still_letter 9 (by kernel_rfl) (by kernel_rfl) ?_
    intro wd hwd hbd
    simp only [List.take_succ_cons, List.take_zero, List.drop_succ_cons, List.drop_zero]
    have hcd0 := cellS37_0 (a.out.below hbd).1
    have hcd1 := cellS37_1 (a.out.below hbd).1
    repeat still_step
    refine wpStill_nil ?_
    clear hcd0 hcd1
    go_wp2_with (go_at_call 60; refine (Try.Builder_WriteByte_k b b (Lib.byteCells acc) _ _ (isB_keep HSt.out (fun k o hk ho => by rw [hwd]; exact ho)) (by rw [Lib.byteCells_length]; omega) (by rw [hwd]; exact HS2.out)).mono ?_; rintro e q ⟨rfl, hb4, hB4, hO4⟩; have hI4 := isS_hi (a.out.below hbd) hB4 (by have := hgw.out; have := hgb.out; omega); have hc4x := cellS37_1 hI4.1; have hf4x := blk_frozen hI4.1 1)
    go_roundw
    case rel =>
     obtain ⟨r1, r2⟩ := quo_next (by have := hgw.out; have := hgb.out; omega) (by have := hgb.out; omega) (by have := hgb.out; have := hB.size; omega) HB3.out c.out hbd hB4 HS2.out hI4 (x := s[j]'hlt) hb4
     refine ⟨j + 1, acc ++ [s[j]'hlt], r1, r2, ⟨hlt, by simp; omega, ?_⟩⟩
     rw [← hqj, quoL_one hla.out hc]
    case measure =>
     rw [hm0.out, atOf_is (i := j + 1) (w0 := w0) (s := s) (by have := hI4.set_1 ((j : Int) + 1); simpa using this)]
     omega
  ·have r : decide ((j : Int) < (s.size : Int)) = false := decide_eq_false (by omega)
   have hqn : quo s i = none := by unfold quo; rw [hh, if_pos rfl, ← hqj]; exact quoL_end hlt
   go_wp2
   repeat (go_quiet (fail); try go_wp2)
   go_step3
   go_wp2
   (try rw [Exit.noGoto_ret])
   go_ret2
   refine ⟨_, _, j, rfl, ?_, IsS37.drewN hIj _, pw_below_drewN hBj _, keep_drewN hKj _⟩
   unfold Quoted
   rw [hqn]
   exact ⟨rfl, rfl, hj⟩
theorem lex_quoted.calls (g : Nat) (s : ByteArray) (i : Nat) (hi : i ≤ s.size) (hs : s.size ≤ 140737488351232) (w0 w : World) (hI : IsS37 w0 w g s i) (hB : Below w0.heap.size w0 w) :
  Calls Try.prog 44 #[.pointer (some ⟨g, 0, none⟩)] w fun e w' => ∃ t ok j, e = .returned (.tuple #[.string t, .bool ok]) ∧ Quoted s i t ok j ∧ IsS37 w0 w' g s (j : Nat) ∧ Below w0.heap.size w0 w' ∧ KeepBut w w' g none := by
 cases hh : hit (· == (39 : UInt8)) s i
 ·exact lex_quoted.bad g s i hi hs w0 w hI hB hh
 ·exact lex_quoted.good g s i hi hs w0 w hI hB hh
end Go.Proofs.Ytpodpmjlkbbkoaa.P
namespace Go.Proofs.Ytpodpmjlkbbkoaa.P
open Go.RowKit Go.Proofs.YtpodpmjlkbbkoaaW.PrintWords Go.Proofs.YtpodpmjlkbbkoaaW.PrintLast Go.Proofs.YtpodpmjlkbbkoaaW.PrintMore
def colonAt (s : ByteArray) (i : Nat) : Bool := byteAt s i == 58 && byteAt s (i + 1) != 61
theorem colonAt_lt {s : ByteArray} {i : Nat} (h : colonAt s i = true) : i < s.size := by
 unfold colonAt byteAt at h
 split at h
 case isTrue h1 => exact h1
 case isFalse => simp at h
theorem peek_f (s : ByteArray) (i n : Nat) (hi : i ≤ s.size) (hn : n ≤ 8) (hs : s.size ≤ 140737488351232) : lex_reader_peek.f s (i : Int) (n : Int) = some (byteAt s (i + n), s, (i : Int)) := by
 have hw := (wrap_in ((i : Int) + n) (by omega) (by omega)).1
 unfold lex_reader_peek.f
 rw [hw]
 split
 case isTrue h =>
  rw [if_pos (by omega)]
  have : bt s ((i : Int) + n) = byteAt s (i + n) := by
   unfold bt byteAt
   have e : ((i : Int) + n).toNat = i + n := by omega
   simp only [e]
  rw [this]
 case isFalse h =>
  unfold byteAt
  rw [dif_neg (by omega)]
theorem lex_colon.calls (g : Nat) (s : ByteArray) (i : Nat) (hi : i ≤ s.size) (hs : s.size ≤ 140737488351232) (w0 w : World) (hI : IsS37 w0 w g s i) (hB : Below w0.heap.size w0 w) :
  Calls Try.prog 41 #[.pointer (some ⟨g, 0, none⟩)] w fun e w' => e = .returned (.bool (colonAt s i)) ∧ IsS37 w0 w' g s i ∧ Below w0.heap.size w0 w' ∧ KeepBut w w' g none := by
 refine lex_reader_colon.calls g s i (colonAt s i) s i w0 w hI hB ?_
 unfold lex_reader_colon.f
 have h0 : lex_reader_peek.f s (i : Int) 0 = some (byteAt s i, s, (i : Int)) := peek_f s i 0 hi (by omega) hs
 have h1 : lex_reader_peek.f s (i : Int) 1 = some (byteAt s (i + 1), s, (i : Int)) := peek_f s i 1 hi (by omega) hs
 rw [h0]
 simp only [Option.bind_some]
 unfold colonAt
 split
 case isTrue h => rw [h1]; simp [h]
 case isFalse h => simp [h]
def symEnd (s : ByteArray) (k : Nat) : Nat := if h : colonAt s k = true then symEnd s (nameEnd s (k + 1)) else k
 termination_by s.size - k
 decreasing_by
  have := colonAt_lt h
  have := nameEnd_ge s (k + 1)
  omega
theorem signEnd_ge (s : ByteArray) (i : Nat) : i ≤ signEnd s i := by
 unfold signEnd
 split
 ·split <;> omega
 ·omega
theorem sub_le {i k : Nat} (h : i ≤ k) : decide ((k : Int) - (i : Int) ≤ 1024) = decide (k - i ≤ 1024) := decide_eq_decide.2 (by omega)
theorem set1 {w0 w : World} {g : Nat} {s : ByteArray} {j : Nat} (h : IsS37 w0 w g s (j : Int)) : IsS37 w0 (w.setCell ⟨g, 1, none⟩ (.int .i64 ((j : Int) + 1))) g s ((j + 1 : Nat) : Int) := by
 have := h.set_1 ((j : Int) + 1)
 simpa using this
def Symboled (s : ByteArray) (i : Nat) (t : ByteArray) (ok : Bool) (j : Nat) : Prop :=
 if hit isLetter s i = true then t = s.extract i (symEnd s (nameEnd s i)) ∧ ok = decide (symEnd s (nameEnd s i) - i ≤ 1024) ∧ j = symEnd s (nameEnd s i)
 else if hit isSign s i = true then t = s.extract i (signEnd s i) ∧ ok = decide (signEnd s i - i ≤ 1024) ∧ j = signEnd s i
 else Quoted s i t ok j
theorem lex_symbol.calls (g : Nat) (s : ByteArray) (i : Nat) (hi : i ≤ s.size) (hs : s.size ≤ 140737488351232) (w0 w : World) (hI : IsS37 w0 w g s i) (hB : Below w0.heap.size w0 w) :
  Calls Try.prog 46 #[.pointer (some ⟨g, 0, none⟩)] w fun e w' => ∃ t ok j, e = .returned (.tuple #[.string t, .bool ok]) ∧ Symboled s i t ok j ∧ IsS37 w0 w' g s (j : Nat) ∧ Below w0.heap.size w0 w' ∧ KeepBut w w' g none := by
 have hc0 := cellS37_1 hI.1
 cases hl : hit isLetter s i
 ·have he1 : nameEnd s i = i := by unfold nameEnd; rw [hl]; rfl
  cases hg : hit isSign s i
  ·have he2 : signEnd s i = i := by unfold signEnd; rw [hg]; rfl
   go_enter Try.func46, Try.ntmps46
   go_wp2_with (first | (go_at_call 40; refine (lex_name.calls g s i hi hs w0 _ hI hB).mono ?_; rintro e b ⟨rfl, hI1, hB1, hK1⟩; rw [hl]; rw [he1] at hI1; clear hc0) | (go_at_call 47; refine (lex_sign.calls g s i hi hs w0 _ hI1 hB1).mono ?_; rintro e a ⟨rfl, hI2, hB2, hK2⟩; rw [hg]; rw [he2] at hI2) | (go_at_call 44; refine (lex_quoted.calls g s i hi hs w0 _ hI2 hB2).mono ?_; rintro e c ⟨t, ok, j, rfl, hQ, hI3, hB3, hK3⟩))
   go_ret2
   refine ⟨_, _, j, rfl, ?_, hI3, hB3, (hK1.trans hK2 (.inl rfl)).trans hK3 (.inl rfl)⟩
   unfold Symboled
   rw [hl, hg]
   exact hQ
  ·have hsl := signEnd_le s i hi
   have hsg := signEnd_ge s i
   obtain ⟨k, hk⟩ : ∃ k, signEnd s i = k := ⟨_, rfl⟩
   rw [hk] at hsl hsg
   replace hk := Aside0.mk hk
   have hwk := wrap_in ((k : Int) - (i : Int)) (by omega) (by omega)
   have hwk1 := hwk.1
   have hwk2 := hwk.2
   clear hwk
   go_enter Try.func46, Try.ntmps46
   go_wp2_with (first | (go_at_call 40; refine (lex_name.calls g s i hi hs w0 _ hI hB).mono ?_; rintro e b ⟨rfl, hI1, hB1, hK1⟩; rw [hl]; rw [he1] at hI1; clear hc0) | (go_at_call 47; refine (lex_sign.calls g s i hi hs w0 _ hI1 hB1).mono ?_; rintro e a ⟨rfl, hI2, hB2, hK2⟩; rw [hg]; rw [hk.out] at hI2; have hc2a := cellS37_0 hI2.1; have hc2b := cellS37_1 hI2.1))
   repeat (go_quiet (fail); try go_wp2)
   go_ret2
   refine ⟨_, _, k, rfl, ?_, IsS37.drewN hI2 _, pw_below_drewN hB2 _, keep_drewN (hK1.trans hK2 (.inl rfl)) _⟩
   unfold Symboled
   rw [hl, hg, hk.out]
   exact ⟨rfl, sub_le hsg, rfl⟩
 ·have hn0 := nameEnd_le s i hi
  have hn1 := nameEnd_ge s i
  obtain ⟨k1, hk1⟩ : ∃ k, nameEnd s i = k := ⟨_, rfl⟩
  rw [hk1] at hn0 hn1
  replace hk1 := Aside0.mk hk1
  go_enter Try.func46, Try.ntmps46
  go_wp2_with (go_at_call 40; refine (lex_name.calls g s i hi hs w0 _ hI hB).mono ?_; rintro e b ⟨rfl, hI1, hB1, hK1⟩; rw [hl]; rw [hk1.out] at hI1; clear hc0)
  go_loopw [] (fun w' => ∃ j : Nat, Aside0 (IsS37 w0 w' g s (j : Int) ∧ Below w0.heap.size w0 w' ∧ KeepBut w w' g none) ∧ Aside0 (i ≤ j ∧ j ≤ s.size ∧ symEnd s j = symEnd s k1)) (fun w' => s.size - atOf w' g)
  case atStart => exact ⟨k1, ⟨hI1, hB1, hK1⟩, ⟨hn1, hn0, rfl⟩⟩
  case round =>
   obtain ⟨j, ⟨hIj, hBj, hKj⟩, ⟨hij, hj, hej⟩⟩ := hrel
   replace hej := Aside0.mk hej
   have hm0 := Aside0.mk (atOf_is hIj)
   cases hcl : colonAt s j
   ·have he : symEnd s j = j := by rw [symEnd, dif_neg (by rw [hcl]; simp)]
    replace hej := Aside0.mk (he.symm.trans hej.out)
    clear he
    have hwk := wrap_in ((j : Int) - (i : Int)) (by omega) (by omega)
    have hwk1 := hwk.1
    have hwk2 := hwk.2
    clear hwk
    go_wp2_with (go_at_call 41; refine (lex_colon.calls g s j hj hs w0 _ hIj hBj).mono ?_; rintro e a ⟨rfl, hI2, hB2, hK2⟩; rw [hcl]; have hc2a := cellS37_0 hI2.1; have hc2b := cellS37_1 hI2.1)
    repeat (go_quiet (fail); try go_wp2)
    go_ret2
    refine ⟨_, _, j, rfl, ?_, IsS37.drewN hI2 _, pw_below_drewN hB2 _, keep_drewN (hKj.trans hK2 (.inl rfl)) _⟩
    unfold Symboled
    rw [hl, if_pos rfl, hk1.out, ← hej.out]
    exact ⟨rfl, sub_le hij, rfl⟩
   ·have hlt := colonAt_lt hcl
    have he : symEnd s j = symEnd s (nameEnd s (j + 1)) := by rw [symEnd, dif_pos hcl]
    have hx0 := nameEnd_le s (j + 1) hlt
    have hx1 := nameEnd_ge s (j + 1)
    obtain ⟨k2, hk2⟩ : ∃ k, nameEnd s (j + 1) = k := ⟨_, rfl⟩
    rw [hk2] at he hx0 hx1
    replace he := Aside0.mk he
    replace hk2 := Aside0.mk hk2
    have hwk := wrap_in ((j : Int) + 1) (by omega) (by omega)
    have hwk1 := hwk.1
    have hwk2 := hwk.2
    clear hwk
    have hla := Aside0.mk hlt
    clear hlt
    go_wp2_with (first | (go_at_call 41; refine (lex_colon.calls g s j hj hs w0 _ hIj hBj).mono ?_; rintro e a ⟨rfl, hI2, hB2, hK2⟩; rw [hcl]; have hc2b := cellS37_1 hI2.1; have hf2 := blk_frozen hI2.1 1) | (go_at_call 40; refine (lex_name.calls g s (j + 1) hla.out hs w0 _ (set1 hI2) (below_set hB2 (IsS37.ge hI2))).mono ?_; rintro e c ⟨rfl, hI3, hB3, hK3⟩; rw [hk2.out] at hI3))
    go_roundw
    case rel =>
     exact ⟨k2, ⟨hI3, hB3, ((hKj.trans hK2 (.inl rfl)).set_ _ _).trans hK3 (.inl rfl)⟩, ⟨Nat.le_trans hij (Nat.le_trans (Nat.le_succ j) hx1), hx0, he.out.symm.trans hej.out⟩⟩
    case measure =>
     rw [hm0.out, atOf_is hI3]
     exact Nat.sub_lt_sub_left hla.out (Nat.lt_of_succ_le hx1)
end Go.Proofs.Ytpodpmjlkbbkoaa.P
