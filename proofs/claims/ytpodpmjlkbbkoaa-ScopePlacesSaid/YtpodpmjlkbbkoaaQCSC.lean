import Derived.Test.YtpodpmjlkbbkoaaQCSB
import Derived.Test.YtpodpmjlkbbkoaaQCTA
set_option linter.all false
set_option maxHeartbeats 16000000
set_option maxRecDepth 100000
namespace Go.Proofs.Ytpodpmjlkbbkoaa.P
open Go.RowKit Go.Proofs.YtpodpmjlkbbkoaaW.PrintWords Go.Proofs.YtpodpmjlkbbkoaaW.PrintLast Go.Proofs.YtpodpmjlkbbkoaaW.PrintMore
def Frs (F : Nat → Prop) (w : World) : Value → List SP.Fr → Prop
 | v, [] => v = .pointer none
 | v, f :: r => ∃ g a b c An cn kv nx, v = .pointer (some ⟨g, 0, none⟩) ∧ F g ∧ w.heap[g]? = some (.cells #[a, b, c, .int .i64 f.2, .slice An f.1.length cn, kv, nx] 70 (0, 0)) ∧ Kd.string.Q 9 w 0 F (.slice An f.1.length cn) f.1 ∧ Frs F w nx r
theorem Frs.fr {F X : Nat → Prop} {w w' : World} (hf : Fr X w w') (hX : ∀ k, F k → ¬ X k) : ∀ {fs : List SP.Fr} {v : Value}, Frs F w v fs → Frs F w' v fs
 | [], _, h => h
 | _ :: r, _, h => by
  obtain ⟨g, a, b, c, An, cn, kv, nx, e, hg, hb, hq, hr⟩ := h
  exact ⟨g, a, b, c, An, cn, kv, nx, e, hg, hf.blk hb (hX g hg), hf.Q hq hX, Frs.fr hf hX hr⟩
theorem Frs.mono {F F2 : Nat → Prop} {w : World} (hF : ∀ k, F k → k < w.heap.size → F2 k) : ∀ {fs : List SP.Fr} {v : Value}, Frs F w v fs → Frs F2 w v fs
 | [], _, h => h
 | _ :: r, _, h => by
  obtain ⟨g, a, b, c, An, cn, kv, nx, e, hg, hb, hq, hr⟩ := h
  exact ⟨g, a, b, c, An, cn, kv, nx, e, hF g hg (blk_lt hb), hb, Q_mono' hq hF, Frs.mono hF hr⟩
def SL (F : Nat → Prop) (w : World) (As : Option Addr) (cs : Nat) (slots : List ByteArray) : Prop := slots.length ≤ cs ∧ ∀ (X : Nat → Prop) (w' : World), Fr X w w' → (∀ k, F k → k < w.heap.size → ¬ X k) → Kd.string.C w' As slots.length slots
section
variable {F X : Nat → Prop} {w w' : World} {As : Option Addr} {cs : Nat} {slots : List ByteArray}
theorem SL.reads (h : SL F w As cs slots) : Kd.string.C w As slots.length slots := h.2 (fun _ => False) w (Fr.refl _ _) (fun _ _ _ h => h)
theorem SL.fr (h : SL F w As cs slots) (hf : Fr X w w') (hX : ∀ k, F k → ¬ X k) : SL F w' As cs slots := ⟨h.1, fun X2 w2 hf2 hX2 => h.2 (fun k => X k ∨ X2 k) w2 ((hf.mono (fun k hk => Or.inl hk)).then_ hf2 (fun k hk => .inl (.inr hk))) (fun k hk hl => by
 rintro (hx | hx)
 ·exact hX k hk hx
 ·exact hX2 k hk (Nat.lt_of_lt_of_le hl hf.size) hx)⟩
theorem SL.mono {T : Nat → Prop} (h : SL F w As cs slots) (hT : ∀ k, F k → k < w.heap.size → T k) : SL T w As cs slots := ⟨h.1, fun X w' hf hX => h.2 X w' hf (fun k hk hl => hX k (hT k hk hl) hl)⟩
theorem SL.of_C (hc : slots.length ≤ cs) (h : Kd.string.C w As slots.length slots) : SL (fun k => k < w.heap.size) w As cs slots := ⟨hc, fun X w' hf hX => Kd.C_below h ((hf.mono (S2 := fun k => w.heap.size ≤ k ∨ X k) (fun k hk => Or.inr hk)).below (Below.refl _ _) (fun k hk => hk.elim id (fun hx => by
 by_cases hl : k < w.heap.size
 ·exact absurd hx (hX k hl hl)
 ·omega)) (Nat.le_refl _))⟩
end
end Go.Proofs.Ytpodpmjlkbbkoaa.P
namespace Go.Proofs.YtpodpmjlkbbkoaaW.PrintWords
open Go.Proofs.Ytpodpmjlkbbkoaa.P
section
variable {F : Nat → Prop} {As : Option Addr} {cs : Nat} {slots : List ByteArray}
variable {g : Nat} {v v' : World}
theorem Aside0.l0 (h : Aside0 (SL F v As cs slots)) (K : Fr (fun _ => False) v v') : Aside0 (SL F v' As cs slots) := ⟨h.out.fr K (fun _ _ h => h)⟩
theorem Aside0.l1 (h : Aside0 (SL F v As cs slots)) (K : Fr (fun k => k = g) v v') (hg : ∀ k, F k → k ≠ g) : Aside0 (SL F v' As cs slots) := ⟨h.out.fr K hg⟩
end
end Go.Proofs.YtpodpmjlkbbkoaaW.PrintWords
namespace Go.Proofs.Ytpodpmjlkbbkoaa.P
open Go.RowKit Go.Proofs.YtpodpmjlkbbkoaaW.PrintWords Go.Proofs.YtpodpmjlkbbkoaaW.PrintLast Go.Proofs.YtpodpmjlkbbkoaaW.PrintMore
def Slo (F : Nat → Prop) (w : World) (wb : Nat) (slots : List ByteArray) : Prop := ∃ As cs lv, w.heap[wb]? = some (.cells #[.slice As slots.length cs, lv] 53 (0, 0)) ∧ SL F w As cs slots
def FindA (u : SP.Use × Bool) (w : World) (e : Ending) (w' : World) : Prop := e = .returned (.tuple #[.agg (useC u.1), .bool u.2]) ∧ Below w.heap.size w w'
theorem scope_find.fixed {s : ByteArray} {k0 i0 : Int} {pw fv : Value} (w : World) (hfix : ∀ w, Calls Try.prog 25 #[.string s] w (FixA s k0 i0 true w)) : Calls Try.prog 36 #[pw, .string s, fv] w (FindA (⟨0, s, k0, 0, i0, false⟩, false) w) := by
 have hu29 := Try.underlying29
 have j := Aside0.mk (Fr.refl (fun k => w.heap.size ≤ k) w)
 have Z := Aside0.mk (Nat.le_refl w.heap.size)
 go_enter Try.func36, Try.ntmps36
 go_wp2_with (first
  | ((with_reducible refine gate_dst (N := 6) rfl ?_); apply boxE 6 #[.int .i64 0, .string ⟨#[]⟩, .int .i64 0, .int .i64 0, .int .i64 0, .bool false] 29; intro o u b e l; replace j := j.f0 e; replace Z := Z.a l; clear l e; have c := b.e6)
  | ((with_reducible refine gate_dst (N := 15) rfl ?_); apply goE 15 Try.func25 (hfix u); rintro x v ⟨rfl, t⟩; refine Or.inl ⟨_, rfl, ?_⟩; have e : Fr (fun _ => False) u v := Fr.of_below t; replace j := j.f0 e; replace b := b.b0 e; replace Z := Z.k e; clear e t; clear c; have c := b.e6)
  | ((with_reducible refine gate_dst (N := 8) rfl ?_); apply boxE 8 #[.int .i64 0, .string ⟨#[]⟩, .int .i64 0, .int .i64 0, .int .i64 0, .bool false] 29; intro q y d e l; replace j := j.f0 e; replace b := b.b0 e; replace Z := Z.a l; clear l e; clear c; have c := b.e6; have i := d.e6; have n : q ≠ o ∧ o ≠ q := (by have r := Z.out; omega)))
 have p := d.s6 (.int .i64 0) (.string s) (.int .i64 k0) (.int .i64 0) (.int .i64 i0) (.bool false)
 clear d
 obtain ⟨z, m, e, d⟩ := p
 rw [m]
 clear m
 have r := Z.out
 replace j := j.f1 e (by omega)
 replace b := b.b1 e (by omega)
 clear r
 replace Z := Z.k e
 clear e
 clear c i n
 have c := b.e6
 have i := d.e6
 have n : q ≠ o ∧ o ≠ q := (by have r := Z.out; omega)
 have p := b.s6 (.int .i64 0) (.string s) (.int .i64 k0) (.int .i64 0) (.int .i64 i0) (.bool false)
 clear b
 obtain ⟨A, m, e, b⟩ := p
 rw [m]
 clear m
 have r := Z.out
 replace j := j.f1 e (by omega)
 replace d := d.b1 e (by omega)
 clear r
 replace Z := Z.k e
 clear e
 clear c i n
 have c := b.e6
 have i := d.e6
 have n : q ≠ o ∧ o ≠ q := (by have r := Z.out; omega)
 refine bodyPost_ret (results_ct rfl _ _ o 29 _ (0, 0) _ rfl b.out hu29 rfl rfl) rfl ?_
 exact ⟨rfl, j.out.below (Below.refl _ _) (fun k h => h) (Nat.le_refl _)⟩
theorem scope_find.free {s : ByteArray} {F : Nat → Prop} {wb : Nat} {slots : List ByteArray} {fs : List SP.Fr} {fv : Value} (w : World) (hfix : ∀ w, Calls Try.prog 25 #[.string s] w (FixA s 0 0 false w)) (hnf : SP.fixed s = none) (hF : ∀ k, F k → k < w.heap.size) (hs : Slo F w wb slots) (hfs : Frs F w fv fs) (hl : fs.length ≤ 1073741824) : Calls Try.prog 36 #[.pointer (some ⟨wb, 0, none⟩), .string s, fv] w (FindA (SP.find slots s fs) w) := by
 have hu29 := Try.underlying29
 have A := Aside0.mk (Fr.refl (fun k => w.heap.size ≤ k) w)
 have Z := Aside0.mk (Nat.le_refl w.heap.size)
 go_enter Try.func36, Try.ntmps36
 go_wp2_with (first
  | ((with_reducible refine gate_dst (N := 6) rfl ?_); apply boxE 6 #[.int .i64 0, .string ⟨#[]⟩, .int .i64 0, .int .i64 0, .int .i64 0, .bool false] 29; intro v v1 c o X; replace A := A.f0 o; replace Z := Z.a X; clear X o; have j := c.e6)
  | ((with_reducible refine gate_dst (N := 15) rfl ?_); apply goE 15 Try.func25 (hfix v1); rintro U L ⟨rfl, E⟩; refine Or.inl ⟨_, rfl, ?_⟩; have o : Fr (fun _ => False) v1 L := Fr.of_below E; replace A := A.f0 o; replace c := c.b0 o; replace Z := Z.k o; clear o E; clear j; have j := c.e6)
  | ((with_reducible refine gate_dst (N := 8) rfl ?_); apply boxE 8 #[.int .i64 0, .string ⟨#[]⟩, .int .i64 0, .int .i64 0, .int .i64 0, .bool false] 29; intro u v3 b o X; replace A := A.f0 o; replace c := c.b0 o; replace Z := Z.a X; clear X o; clear j; have j := c.e6; have m := b.e6; have x : u ≠ v ∧ v ≠ u := (by have B := Z.out; omega)))
 have y := b.s6 (.int .i64 0) (.string s) (.int .i64 0) (.int .i64 0) (.int .i64 0) (.bool false)
 clear b
 obtain ⟨v4, l, o, b⟩ := y
 rw [l]
 clear l
 have B := Z.out
 replace A := A.f1 o (by omega)
 replace c := c.b1 o (by omega)
 clear B
 replace Z := Z.k o
 clear o
 clear j m x
 have j := c.e6
 have m := b.e6
 have x : u ≠ v ∧ v ≠ u := (by have B := Z.out; omega)
 have Z0 := Aside0.mk (And.intro A.out.size Z.out)
 have C := Aside0.mk hF
 go_loopg [2, 10] fs.length (fun kq L P w' => ∃ (fs' : List SP.Fr) (d : Nat), P = .int .i64 (d : Int) ∧ d + fs'.length = fs.length ∧ kq = fs'.length ∧ Aside0 (SP.inFrames s fs' d = SP.inFrames s fs 0) ∧ Aside0 (Frs F w' L fs') ∧ Aside0 (Fr (fun k => w.heap.size ≤ k) w w') ∧ Aside0 (w'.heap[v]? = some (.cells #[.int .i64 0, .string ⟨#[]⟩, .int .i64 0, .int .i64 0, .int .i64 0, .bool false] 29 (0, 0))) ∧ Aside0 (w'.heap[u]? = some (.cells #[.int .i64 0, .string s, .int .i64 0, .int .i64 0, .int .i64 0, .bool false] 29 (0, 0))))
 case atStart => exact ⟨fs, 0, rfl, by simp, rfl, ⟨rfl⟩, ⟨hfs.fr A.out (fun k hk h => by have := hF k hk; omega)⟩, A, c, b⟩
 case round =>
  clear c b A Z
  obtain ⟨fs', d, rfl, hdl, rfl, HI, HF, A, c, b⟩ := hrel
  cases fs' with
  | nil =>
   have U := HF.out
   subst U
   obtain ⟨As, cs, lv, hbw_, hqs_⟩ := hs
   have q := Aside0.mk (A.out.blk hbw_ (fun h => by have := blk_lt hbw_; omega))
   have I := Aside0.mk (SL.fr (SL.mono (T := fun k => k < w.heap.size) hqs_ (fun k hk _ => hF k hk)) A.out (fun k (hk : k < w.heap.size) (h : w.heap.size ≤ k) => by omega))
   have Z := Aside0.mk (And.intro (blk_lt hbw_) (And.intro (blk_lt q.out) Z0.out))
   have hI := HI.out
   simp only [SP.inFrames] at hI
   have HN := Aside0.mk hI.symm
   clear HI HF hbw_ hqs_ hI hfs hfix hl Z0
   cases hi : SP.idx s slots 0 with
   | some i =>
    have hv : idxI s slots = (i : Int) := by unfold idxI; rw [hi]
    have hge : (0 : Int) ≤ (i : Int) := by omega
    have j := c.e6
    have m := b.e6
    have t := q.c2
    have x : u ≠ v ∧ v ≠ u ∧ u ≠ wb ∧ wb ≠ u ∧ v ≠ wb ∧ wb ≠ v := (by have B := Z.out; omega)
    go_wp2_with (first
     | ((with_reducible refine gate_dst (N := 56) rfl ?_); have y := b.st 2 (.int .i64 (-1)) (cs' := #[.int .i64 0, .string s, .int .i64 (-1), .int .i64 0, .int .i64 0, .bool false]) rfl; clear b; obtain ⟨M, l, o, b⟩ := y; rw [l]; clear l; have B := Z.out; replace A := A.f1 o (by omega); replace c := c.b1 o (by omega); replace q := q.b1 o (by omega); replace I := I.l1 o (fun k hk => by omega); clear B; replace Z := Z.k o; clear o; clear j m t x; have j := c.e6; have m := b.e6; have t := q.c2; have x : u ≠ v ∧ v ≠ u ∧ u ≠ wb ∧ wb ≠ u ∧ v ≠ wb ∧ wb ≠ v := (by have B := Z.out; omega); apply goE 56 Try.func35 (slices_index.calls s _ (SL.reads I.out) I.out.1); rintro U w_ ⟨rfl, l⟩; replace l := l.symm; subst l; refine Or.inl ⟨_, rfl, ?_⟩; rw [hv]))
    have y := b.st 2 (.int .i64 4) (cs' := #[.int .i64 0, .string s, .int .i64 4, .int .i64 0, .int .i64 0, .bool false]) rfl
    clear b
    obtain ⟨O, l, o, b⟩ := y
    rw [l]
    clear l
    have B := Z.out
    replace A := A.f1 o (by omega)
    replace c := c.b1 o (by omega)
    replace q := q.b1 o (by omega)
    replace I := I.l1 o (fun k hk => by omega)
    clear B
    replace Z := Z.k o
    clear o
    clear j m t x
    have j := c.e6
    have m := b.e6
    have t := q.c2
    have x : u ≠ v ∧ v ≠ u ∧ u ≠ wb ∧ wb ≠ u ∧ v ≠ wb ∧ wb ≠ v := (by have B := Z.out; omega)
    have y := b.st 4 (.int .i64 (i : Int)) (cs' := #[.int .i64 0, .string s, .int .i64 4, .int .i64 0, .int .i64 (i : Int), .bool false]) rfl
    clear b
    obtain ⟨G, l, o, b⟩ := y
    rw [l]
    clear l
    have B := Z.out
    replace A := A.f1 o (by omega)
    replace c := c.b1 o (by omega)
    replace q := q.b1 o (by omega)
    replace I := I.l1 o (fun k hk => by omega)
    clear B
    replace Z := Z.k o
    clear o
    clear j m t x
    have j := c.e6
    have m := b.e6
    have t := q.c2
    have x : u ≠ v ∧ v ≠ u ∧ u ≠ wb ∧ wb ≠ u ∧ v ≠ wb ∧ wb ≠ v := (by have B := Z.out; omega)
    have y := c.s6 (.int .i64 0) (.string s) (.int .i64 4) (.int .i64 0) (.int .i64 (i : Int)) (.bool false)
    clear c
    obtain ⟨H, l, o, c⟩ := y
    rw [l]
    clear l
    have B := Z.out
    replace A := A.f1 o (by omega)
    replace b := b.b1 o (by omega)
    replace q := q.b1 o (by omega)
    replace I := I.l1 o (fun k hk => by omega)
    clear B
    replace Z := Z.k o
    clear o
    clear j m t x
    have j := c.e6
    have m := b.e6
    have t := q.c2
    have x : u ≠ v ∧ v ≠ u ∧ u ≠ wb ∧ wb ≠ u ∧ v ≠ wb ∧ wb ≠ v := (by have B := Z.out; omega)
    refine bodyPost_ret (results_ct rfl _ _ v 29 _ (0, 0) _ rfl c.out hu29 rfl rfl) rfl ?_
    have U : SP.find slots s fs = (⟨0, s, 4, 0, (i : Int), false⟩, false) := by unfold SP.find; rw [hnf]; simp only; rw [HN.out]; simp only; rw [hi]
    rw [U]
    exact ⟨rfl, A.out.below (Below.refl _ _) (fun k h => h) (Nat.le_refl _)⟩
   | none =>
    have hv : idxI s slots = -1 := by unfold idxI; rw [hi]
    by_cases hz : s.size = 0
    ·have hnil : s.toList = [] := by rw [Lib.toList_data]; apply List.eq_nil_of_length_eq_zero; simpa using hz
     have hsz : ¬ 0 < s.size := by omega
     have j := c.e6
     have m := b.e6
     have t := q.c2
     have x : u ≠ v ∧ v ≠ u ∧ u ≠ wb ∧ wb ≠ u ∧ v ≠ wb ∧ wb ≠ v := (by have B := Z.out; omega)
     go_wp2_with (first
      | ((with_reducible refine gate_dst (N := 56) rfl ?_); have y := b.st 2 (.int .i64 (-1)) (cs' := #[.int .i64 0, .string s, .int .i64 (-1), .int .i64 0, .int .i64 0, .bool false]) rfl; clear b; obtain ⟨M, l, o, b⟩ := y; rw [l]; clear l; have B := Z.out; replace A := A.f1 o (by omega); replace c := c.b1 o (by omega); replace q := q.b1 o (by omega); replace I := I.l1 o (fun k hk => by omega); clear B; replace Z := Z.k o; clear o; clear j m t x; have j := c.e6; have m := b.e6; have t := q.c2; have x : u ≠ v ∧ v ≠ u ∧ u ≠ wb ∧ wb ≠ u ∧ v ≠ wb ∧ wb ≠ v := (by have B := Z.out; omega); apply goE 56 Try.func35 (slices_index.calls s _ (SL.reads I.out) I.out.1); rintro U w_ ⟨rfl, l⟩; replace l := l.symm; subst l; refine Or.inl ⟨_, rfl, ?_⟩; rw [hv]))
     have y := c.s6 (.int .i64 0) (.string s) (.int .i64 (-1)) (.int .i64 0) (.int .i64 0) (.bool false)
     clear c
     obtain ⟨O, l, o, c⟩ := y
     rw [l]
     clear l
     have B := Z.out
     replace A := A.f1 o (by omega)
     replace b := b.b1 o (by omega)
     replace q := q.b1 o (by omega)
     replace I := I.l1 o (fun k hk => by omega)
     clear B
     replace Z := Z.k o
     clear o
     clear j m t x
     have j := c.e6
     have m := b.e6
     have t := q.c2
     have x : u ≠ v ∧ v ≠ u ∧ u ≠ wb ∧ wb ≠ u ∧ v ≠ wb ∧ wb ≠ v := (by have B := Z.out; omega)
     refine bodyPost_ret (results_ct rfl _ _ v 29 _ (0, 0) _ rfl c.out hu29 rfl rfl) rfl ?_
     have U : SP.find slots s fs = (⟨0, s, -1, 0, 0, false⟩, false) := by unfold SP.find; rw [hnf]; simp only; rw [HN.out]; simp only; rw [hi]; simp only; rw [if_neg (fun h => hsz h.1)]
     rw [U]
     exact ⟨rfl, A.out.below (Below.refl _ _) (fun k h => h) (Nat.le_refl _)⟩
    ·have hsz : 0 < s.size := by omega
     have hnn : ¬ s.toList = [] := fun h => by rw [Lib.toList_data] at h; have h1 : s.data.size = 0 := congrArg List.length h; have h2 : s.size = s.data.size := rfl; omega
     have hg0 : s.data.getD 0 0 = s[0]'hsz := by simp [ByteArray.getElem_eq_getElem_data, Array.getD, hsz]
     have hem : s.toList.isEmpty = false := by simp [hnn]
     by_cases h65 : (65 : Int) ≤ ((s[0]'hsz).toNat : Int)
     ·by_cases h90 : ((s[0]'hsz).toNat : Int) ≤ 90
      ·have hc : 0 < s.size ∧ 65 ≤ s.data.getD 0 0 ∧ s.data.getD 0 0 ≤ 90 := by rw [hg0]; exact ⟨hsz, UInt8.le_iff_toNat_le.2 (by have : (65 : UInt8).toNat = 65 := rfl; omega), UInt8.le_iff_toNat_le.2 (by have : (90 : UInt8).toNat = 90 := rfl; omega)⟩
       have j := c.e6
       have m := b.e6
       have t := q.c2
       have x : u ≠ v ∧ v ≠ u ∧ u ≠ wb ∧ wb ≠ u ∧ v ≠ wb ∧ wb ≠ v := (by have B := Z.out; omega)
       go_wp2_with (first
        | ((with_reducible refine gate_dst (N := 56) rfl ?_); have y := b.st 2 (.int .i64 (-1)) (cs' := #[.int .i64 0, .string s, .int .i64 (-1), .int .i64 0, .int .i64 0, .bool false]) rfl; clear b; obtain ⟨M, l, o, b⟩ := y; rw [l]; clear l; have B := Z.out; replace A := A.f1 o (by omega); replace c := c.b1 o (by omega); replace q := q.b1 o (by omega); replace I := I.l1 o (fun k hk => by omega); clear B; replace Z := Z.k o; clear o; clear j m t x; have j := c.e6; have m := b.e6; have t := q.c2; have x : u ≠ v ∧ v ≠ u ∧ u ≠ wb ∧ wb ≠ u ∧ v ≠ wb ∧ wb ≠ v := (by have B := Z.out; omega); apply goE 56 Try.func35 (slices_index.calls s _ (SL.reads I.out) I.out.1); rintro U w_ ⟨rfl, l⟩; replace l := l.symm; subst l; refine Or.inl ⟨_, rfl, ?_⟩; rw [hv]))
       have y := b.st 2 (.int .i64 5) (cs' := #[.int .i64 0, .string s, .int .i64 5, .int .i64 0, .int .i64 0, .bool false]) rfl
       clear b
       obtain ⟨O, l, o, b⟩ := y
       rw [l]
       clear l
       have B := Z.out
       replace A := A.f1 o (by omega)
       replace c := c.b1 o (by omega)
       replace q := q.b1 o (by omega)
       replace I := I.l1 o (fun k hk => by omega)
       clear B
       replace Z := Z.k o
       clear o
       clear j m t x
       have j := c.e6
       have m := b.e6
       have t := q.c2
       have x : u ≠ v ∧ v ≠ u ∧ u ≠ wb ∧ wb ≠ u ∧ v ≠ wb ∧ wb ≠ v := (by have B := Z.out; omega)
       have y := c.s6 (.int .i64 0) (.string s) (.int .i64 5) (.int .i64 0) (.int .i64 0) (.bool false)
       clear c
       obtain ⟨G, l, o, c⟩ := y
       rw [l]
       clear l
       have B := Z.out
       replace A := A.f1 o (by omega)
       replace b := b.b1 o (by omega)
       replace q := q.b1 o (by omega)
       replace I := I.l1 o (fun k hk => by omega)
       clear B
       replace Z := Z.k o
       clear o
       clear j m t x
       have j := c.e6
       have m := b.e6
       have t := q.c2
       have x : u ≠ v ∧ v ≠ u ∧ u ≠ wb ∧ wb ≠ u ∧ v ≠ wb ∧ wb ≠ v := (by have B := Z.out; omega)
       refine bodyPost_ret (results_ct rfl _ _ v 29 _ (0, 0) _ rfl c.out hu29 rfl rfl) rfl ?_
       have U : SP.find slots s fs = (⟨0, s, 5, 0, 0, false⟩, false) := by unfold SP.find; rw [hnf]; simp only; rw [HN.out]; simp only; rw [hi]; simp only; rw [if_pos hc]
       rw [U]
       exact ⟨rfl, A.out.below (Below.refl _ _) (fun k h => h) (Nat.le_refl _)⟩
      ·have hc : ¬ (0 < s.size ∧ 65 ≤ s.data.getD 0 0 ∧ s.data.getD 0 0 ≤ 90) := by rw [hg0]; intro h; have := UInt8.le_iff_toNat_le.1 h.2.2; have e : (90 : UInt8).toNat = 90 := rfl; omega
       have j := c.e6
       have m := b.e6
       have t := q.c2
       have x : u ≠ v ∧ v ≠ u ∧ u ≠ wb ∧ wb ≠ u ∧ v ≠ wb ∧ wb ≠ v := (by have B := Z.out; omega)
       go_wp2_with (first
        | ((with_reducible refine gate_dst (N := 56) rfl ?_); have y := b.st 2 (.int .i64 (-1)) (cs' := #[.int .i64 0, .string s, .int .i64 (-1), .int .i64 0, .int .i64 0, .bool false]) rfl; clear b; obtain ⟨M, l, o, b⟩ := y; rw [l]; clear l; have B := Z.out; replace A := A.f1 o (by omega); replace c := c.b1 o (by omega); replace q := q.b1 o (by omega); replace I := I.l1 o (fun k hk => by omega); clear B; replace Z := Z.k o; clear o; clear j m t x; have j := c.e6; have m := b.e6; have t := q.c2; have x : u ≠ v ∧ v ≠ u ∧ u ≠ wb ∧ wb ≠ u ∧ v ≠ wb ∧ wb ≠ v := (by have B := Z.out; omega); apply goE 56 Try.func35 (slices_index.calls s _ (SL.reads I.out) I.out.1); rintro U w_ ⟨rfl, l⟩; replace l := l.symm; subst l; refine Or.inl ⟨_, rfl, ?_⟩; rw [hv]))
       have y := c.s6 (.int .i64 0) (.string s) (.int .i64 (-1)) (.int .i64 0) (.int .i64 0) (.bool false)
       clear c
       obtain ⟨O, l, o, c⟩ := y
       rw [l]
       clear l
       have B := Z.out
       replace A := A.f1 o (by omega)
       replace b := b.b1 o (by omega)
       replace q := q.b1 o (by omega)
       replace I := I.l1 o (fun k hk => by omega)
       clear B
       replace Z := Z.k o
       clear o
       clear j m t x
       have j := c.e6
       have m := b.e6
       have t := q.c2
       have x : u ≠ v ∧ v ≠ u ∧ u ≠ wb ∧ wb ≠ u ∧ v ≠ wb ∧ wb ≠ v := (by have B := Z.out; omega)
       refine bodyPost_ret (results_ct rfl _ _ v 29 _ (0, 0) _ rfl c.out hu29 rfl rfl) rfl ?_
       have U : SP.find slots s fs = (⟨0, s, -1, 0, 0, false⟩, false) := by unfold SP.find; rw [hnf]; simp only; rw [HN.out]; simp only; rw [hi]; simp only; rw [if_neg hc]
       rw [U]
       exact ⟨rfl, A.out.below (Below.refl _ _) (fun k h => h) (Nat.le_refl _)⟩
     ·have hc : ¬ (0 < s.size ∧ 65 ≤ s.data.getD 0 0 ∧ s.data.getD 0 0 ≤ 90) := by rw [hg0]; intro h; have := UInt8.le_iff_toNat_le.1 h.2.1; have e : (65 : UInt8).toNat = 65 := rfl; omega
      have j := c.e6
      have m := b.e6
      have t := q.c2
      have x : u ≠ v ∧ v ≠ u ∧ u ≠ wb ∧ wb ≠ u ∧ v ≠ wb ∧ wb ≠ v := (by have B := Z.out; omega)
      go_wp2_with (first
       | ((with_reducible refine gate_dst (N := 56) rfl ?_); have y := b.st 2 (.int .i64 (-1)) (cs' := #[.int .i64 0, .string s, .int .i64 (-1), .int .i64 0, .int .i64 0, .bool false]) rfl; clear b; obtain ⟨M, l, o, b⟩ := y; rw [l]; clear l; have B := Z.out; replace A := A.f1 o (by omega); replace c := c.b1 o (by omega); replace q := q.b1 o (by omega); replace I := I.l1 o (fun k hk => by omega); clear B; replace Z := Z.k o; clear o; clear j m t x; have j := c.e6; have m := b.e6; have t := q.c2; have x : u ≠ v ∧ v ≠ u ∧ u ≠ wb ∧ wb ≠ u ∧ v ≠ wb ∧ wb ≠ v := (by have B := Z.out; omega); apply goE 56 Try.func35 (slices_index.calls s _ (SL.reads I.out) I.out.1); rintro U w_ ⟨rfl, l⟩; replace l := l.symm; subst l; refine Or.inl ⟨_, rfl, ?_⟩; rw [hv]))
      have y := c.s6 (.int .i64 0) (.string s) (.int .i64 (-1)) (.int .i64 0) (.int .i64 0) (.bool false)
      clear c
      obtain ⟨O, l, o, c⟩ := y
      rw [l]
      clear l
      have B := Z.out
      replace A := A.f1 o (by omega)
      replace b := b.b1 o (by omega)
      replace q := q.b1 o (by omega)
      replace I := I.l1 o (fun k hk => by omega)
      clear B
      replace Z := Z.k o
      clear o
      clear j m t x
      have j := c.e6
      have m := b.e6
      have t := q.c2
      have x : u ≠ v ∧ v ≠ u ∧ u ≠ wb ∧ wb ≠ u ∧ v ≠ wb ∧ wb ≠ v := (by have B := Z.out; omega)
      refine bodyPost_ret (results_ct rfl _ _ v 29 _ (0, 0) _ rfl c.out hu29 rfl rfl) rfl ?_
      have U : SP.find slots s fs = (⟨0, s, -1, 0, 0, false⟩, false) := by unfold SP.find; rw [hnf]; simp only; rw [HN.out]; simp only; rw [hi]; simp only; rw [if_neg hc]
      rw [U]
      exact ⟨rfl, A.out.below (Below.refl _ _) (fun k h => h) (Nat.le_refl _)⟩
  | cons f r =>
   obtain ⟨gf, a, b_, c_, An, cn, kv, nx, rfl, hgF_, hbf_, hqn_, hr_⟩ := HF.out
   have p := Aside0.mk hbf_
   have W := Aside0.mk (Q_mono' (T := fun k => k < w.heap.size) hqn_ (fun k hk _ => hF k hk))
   have Y := Aside0.mk hr_
   have Z := Aside0.mk (And.intro (hF gf hgF_) (And.intro A.out.size Z0.out))
   have HI2 := HI.out
   simp only [SP.inFrames] at HI2
   clear HI HF hbf_ hqn_ hr_ hfix hgF_ Z0
   cases hi : SP.idx s f.1 0 with
   | some i =>
    have hv : idxI s f.1 = (i : Int) := by unfold idxI; rw [hi]
    have hge : (0 : Int) ≤ (i : Int) := by omega
    rw [hi] at HI2
    have HN := Aside0.mk HI2.symm
    clear HI2
    have j := c.e6
    have m := b.e6
    have D : wr.cell? ⟨gf, 0, none⟩ = some (a) ∧ wr.cell? ⟨gf, 1, none⟩ = some (b_) ∧ wr.cell? ⟨gf, 2, none⟩ = some (c_) ∧ wr.cell? ⟨gf, 3, none⟩ = some (.int .i64 f.2) ∧ wr.cell? ⟨gf, 4, none⟩ = some (.slice An f.1.length cn) ∧ wr.cell? ⟨gf, 5, none⟩ = some (kv) ∧ wr.cell? ⟨gf, 6, none⟩ = some (nx) := ⟨(blk_cell p.out 0).trans rfl, (blk_cell p.out 1).trans rfl, (blk_cell p.out 2).trans rfl, (blk_cell p.out 3).trans rfl, (blk_cell p.out 4).trans rfl, (blk_cell p.out 5).trans rfl, (blk_cell p.out 6).trans rfl⟩
    have x : u ≠ v ∧ v ≠ u ∧ u ≠ gf ∧ gf ≠ u ∧ v ≠ gf ∧ gf ≠ v := (by have B := Z.out; omega)
    go_wp2_with (first
     | ((with_reducible refine gate_dst (N := 34) rfl ?_); apply goE 34 Try.func35 (slices_index.calls s _ (Kd.Q_reads' W.out).2.2 (Kd.Q_reads' W.out).2.1); rintro U w_ ⟨rfl, l⟩; replace l := l.symm; subst l; refine Or.inl ⟨_, rfl, ?_⟩; rw [hv]))
    have y := b.st 2 (.int .i64 3) (cs' := #[.int .i64 0, .string s, .int .i64 3, .int .i64 0, .int .i64 0, .bool false]) rfl
    clear b
    obtain ⟨M, l, o, b⟩ := y
    rw [l]
    clear l
    have B := Z.out
    replace A := A.f1 o (by omega)
    replace c := c.b1 o (by omega)
    replace p := p.b1 o (by omega)
    replace W := W.q1 o (fun k hk => by omega)
    replace Y := Aside0.mk (Y.out.fr o (fun k hk => (show ¬ (k = u) from by have := C.out k hk; omega)))
    clear B
    replace Z := Z.k o
    clear o
    clear j m D x
    have j := c.e6
    have m := b.e6
    have D : M.cell? ⟨gf, 0, none⟩ = some (a) ∧ M.cell? ⟨gf, 1, none⟩ = some (b_) ∧ M.cell? ⟨gf, 2, none⟩ = some (c_) ∧ M.cell? ⟨gf, 3, none⟩ = some (.int .i64 f.2) ∧ M.cell? ⟨gf, 4, none⟩ = some (.slice An f.1.length cn) ∧ M.cell? ⟨gf, 5, none⟩ = some (kv) ∧ M.cell? ⟨gf, 6, none⟩ = some (nx) := ⟨(blk_cell p.out 0).trans rfl, (blk_cell p.out 1).trans rfl, (blk_cell p.out 2).trans rfl, (blk_cell p.out 3).trans rfl, (blk_cell p.out 4).trans rfl, (blk_cell p.out 5).trans rfl, (blk_cell p.out 6).trans rfl⟩
    have x : u ≠ v ∧ v ≠ u ∧ u ≠ gf ∧ gf ≠ u ∧ v ≠ gf ∧ gf ≠ v := (by have B := Z.out; omega)
    have y := b.st 3 (.int .i64 (d : Int)) (cs' := #[.int .i64 0, .string s, .int .i64 3, .int .i64 (d : Int), .int .i64 0, .bool false]) rfl
    clear b
    obtain ⟨O, l, o, b⟩ := y
    rw [l]
    clear l
    have B := Z.out
    replace A := A.f1 o (by omega)
    replace c := c.b1 o (by omega)
    replace p := p.b1 o (by omega)
    replace W := W.q1 o (fun k hk => by omega)
    replace Y := Aside0.mk (Y.out.fr o (fun k hk => (show ¬ (k = u) from by have := C.out k hk; omega)))
    clear B
    replace Z := Z.k o
    clear o
    clear j m D x
    have j := c.e6
    have m := b.e6
    have D : O.cell? ⟨gf, 0, none⟩ = some (a) ∧ O.cell? ⟨gf, 1, none⟩ = some (b_) ∧ O.cell? ⟨gf, 2, none⟩ = some (c_) ∧ O.cell? ⟨gf, 3, none⟩ = some (.int .i64 f.2) ∧ O.cell? ⟨gf, 4, none⟩ = some (.slice An f.1.length cn) ∧ O.cell? ⟨gf, 5, none⟩ = some (kv) ∧ O.cell? ⟨gf, 6, none⟩ = some (nx) := ⟨(blk_cell p.out 0).trans rfl, (blk_cell p.out 1).trans rfl, (blk_cell p.out 2).trans rfl, (blk_cell p.out 3).trans rfl, (blk_cell p.out 4).trans rfl, (blk_cell p.out 5).trans rfl, (blk_cell p.out 6).trans rfl⟩
    have x : u ≠ v ∧ v ≠ u ∧ u ≠ gf ∧ gf ≠ u ∧ v ≠ gf ∧ gf ≠ v := (by have B := Z.out; omega)
    have y := b.st 4 (.int .i64 (i : Int)) (cs' := #[.int .i64 0, .string s, .int .i64 3, .int .i64 (d : Int), .int .i64 (i : Int), .bool false]) rfl
    clear b
    obtain ⟨G, l, o, b⟩ := y
    rw [l]
    clear l
    have B := Z.out
    replace A := A.f1 o (by omega)
    replace c := c.b1 o (by omega)
    replace p := p.b1 o (by omega)
    replace W := W.q1 o (fun k hk => by omega)
    replace Y := Aside0.mk (Y.out.fr o (fun k hk => (show ¬ (k = u) from by have := C.out k hk; omega)))
    clear B
    replace Z := Z.k o
    clear o
    clear j m D x
    have j := c.e6
    have m := b.e6
    have D : G.cell? ⟨gf, 0, none⟩ = some (a) ∧ G.cell? ⟨gf, 1, none⟩ = some (b_) ∧ G.cell? ⟨gf, 2, none⟩ = some (c_) ∧ G.cell? ⟨gf, 3, none⟩ = some (.int .i64 f.2) ∧ G.cell? ⟨gf, 4, none⟩ = some (.slice An f.1.length cn) ∧ G.cell? ⟨gf, 5, none⟩ = some (kv) ∧ G.cell? ⟨gf, 6, none⟩ = some (nx) := ⟨(blk_cell p.out 0).trans rfl, (blk_cell p.out 1).trans rfl, (blk_cell p.out 2).trans rfl, (blk_cell p.out 3).trans rfl, (blk_cell p.out 4).trans rfl, (blk_cell p.out 5).trans rfl, (blk_cell p.out 6).trans rfl⟩
    have x : u ≠ v ∧ v ≠ u ∧ u ≠ gf ∧ gf ≠ u ∧ v ≠ gf ∧ gf ≠ v := (by have B := Z.out; omega)
    refine start_ (n := 10) (S := fun w' => (w'.cell? ⟨u, 0, none⟩ = some (.int .i64 0)) ∧ (w'.cell? ⟨u, 1, none⟩ = some (.string s)) ∧ (w'.cell? ⟨u, 2, none⟩ = some (.int .i64 3)) ∧ (w'.cell? ⟨u, 3, none⟩ = some (.int .i64 (d : Int))) ∧ (w'.cell? ⟨u, 4, none⟩ = some (.int .i64 (i : Int))) ∧ (w'.cell? ⟨u, 5, none⟩ = some (.bool false)) ∧ (w'.cell? ⟨gf, 3, none⟩ = some (.int .i64 f.2))) (ds := []) #[false, false, false, false, false, false, false, false, false, false] (by kernel_rfl) rfl rfl (show ((World.drew G).cell? ⟨u, 0, none⟩ = some (.int .i64 0)) ∧ ((World.drew G).cell? ⟨u, 1, none⟩ = some (.string s)) ∧ ((World.drew G).cell? ⟨u, 2, none⟩ = some (.int .i64 3)) ∧ ((World.drew G).cell? ⟨u, 3, none⟩ = some (.int .i64 (d : Int))) ∧ ((World.drew G).cell? ⟨u, 4, none⟩ = some (.int .i64 (i : Int))) ∧ ((World.drew G).cell? ⟨u, 5, none⟩ = some (.bool false)) ∧ ((World.drew G).cell? ⟨gf, 3, none⟩ = some (.int .i64 f.2)) from ⟨(blk_cell b.out 0).trans rfl, (blk_cell b.out 1).trans rfl, (blk_cell b.out 2).trans rfl, (blk_cell b.out 3).trans rfl, (blk_cell b.out 4).trans rfl, (blk_cell b.out 5).trans rfl, (blk_cell p.out 3).trans rfl⟩) (fun J => ?_)
    obtain ⟨H, l⟩ : ∃ W_, W_ = World.drew G := ⟨_, rfl⟩
    rw [← l] at J ⊢
    have o : Fr (fun _ => False) G H := (by rw [l]; exact (Fr.refl _ _).drew)
    replace A := A.f0 o
    replace c := c.b0 o
    replace b := b.b0 o
    replace p := p.b0 o
    replace W := W.q0 o
    replace Y := Aside0.mk (Y.out.fr o (fun _ _ h => h))
    replace Z := Z.k o
    clear o l
    clear j m D x
    apply puA 1 43
    apply puA 2 44
    apply tkA 0 42 J
    apply puA 3 45
    apply puA 4 46
    apply puA 5 47
    apply tkA 6 48 J
    apply puA 7 49
    apply oN 8 none; intro K hK
    have Q := c.z
    have R := c.c6
    have y := c.s6 (.int .i64 0) (.string s) (.int .i64 3) (.int .i64 (d : Int)) (.int .i64 (i : Int)) (.bool false)
    clear c
    obtain ⟨V, l, o, c⟩ := y
    refine skip_ (w1 := V) (by rfl) rfl ?_ ?_
    ·rw [← l]
     clear l
     go_simp
     (try rfl)
    have B := Z.out
    replace A := A.f1 o (by omega)
    replace b := b.b1 o (by omega)
    replace p := p.b1 o (by omega)
    replace W := W.q1 o (fun k hk => by omega)
    replace Y := Aside0.mk (Y.out.fr o (fun k hk => (show ¬ (k = v) from by have := C.out k hk; omega)))
    clear B
    replace Z := Z.k o
    clear Q R l o
    refine hK.out _ _ (show (V.cell? ⟨u, 0, none⟩ = some (.int .i64 0)) ∧ (V.cell? ⟨u, 1, none⟩ = some (.string s)) ∧ (V.cell? ⟨u, 2, none⟩ = some (.int .i64 3)) ∧ (V.cell? ⟨u, 3, none⟩ = some (.int .i64 (d : Int))) ∧ (V.cell? ⟨u, 4, none⟩ = some (.int .i64 (i : Int))) ∧ (V.cell? ⟨u, 5, none⟩ = some (.bool false)) ∧ (V.cell? ⟨gf, 3, none⟩ = some (.int .i64 f.2)) from ⟨(blk_cell b.out 0).trans rfl, (blk_cell b.out 1).trans rfl, (blk_cell b.out 2).trans rfl, (blk_cell b.out 3).trans rfl, (blk_cell b.out 4).trans rfl, (blk_cell b.out 5).trans rfl, (blk_cell p.out 3).trans rfl⟩) (fun J => ?_)
    clear hK K
    apply puA 9 7
    refine done_ (by kernel_rfl) ?_
    go_wp2
    refine bodyPost_ret (results_ct rfl _ _ v 29 _ (0, 0) _ rfl c.out hu29 rfl rfl) rfl ?_
    have U : SP.find slots s fs = (⟨0, s, 3, (d : Int), (i : Int), false⟩, decide ((i : Int) < f.2)) := by unfold SP.find; rw [hnf]; simp only; rw [HN.out]
    rw [U]
    exact ⟨rfl, A.out.below (Below.refl _ _) (fun k h => h) (Nat.le_refl _)⟩
   | none =>
    have hv : idxI s f.1 = -1 := by unfold idxI; rw [hi]
    rw [hi] at HI2
    have HN := Aside0.mk HI2
    clear HI2
    have j := c.e6
    have m := b.e6
    have D : wr.cell? ⟨gf, 0, none⟩ = some (a) ∧ wr.cell? ⟨gf, 1, none⟩ = some (b_) ∧ wr.cell? ⟨gf, 2, none⟩ = some (c_) ∧ wr.cell? ⟨gf, 3, none⟩ = some (.int .i64 f.2) ∧ wr.cell? ⟨gf, 4, none⟩ = some (.slice An f.1.length cn) ∧ wr.cell? ⟨gf, 5, none⟩ = some (kv) ∧ wr.cell? ⟨gf, 6, none⟩ = some (nx) := ⟨(blk_cell p.out 0).trans rfl, (blk_cell p.out 1).trans rfl, (blk_cell p.out 2).trans rfl, (blk_cell p.out 3).trans rfl, (blk_cell p.out 4).trans rfl, (blk_cell p.out 5).trans rfl, (blk_cell p.out 6).trans rfl⟩
    have x : u ≠ v ∧ v ≠ u ∧ u ≠ gf ∧ gf ≠ u ∧ v ≠ gf ∧ gf ≠ v := (by have B := Z.out; omega)
    go_wp2_with (first
     | ((with_reducible refine gate_dst (N := 34) rfl ?_); apply goE 34 Try.func35 (slices_index.calls s _ (Kd.Q_reads' W.out).2.2 (Kd.Q_reads' W.out).2.1); rintro U w_ ⟨rfl, l⟩; replace l := l.symm; subst l; refine Or.inl ⟨_, rfl, ?_⟩; rw [hv]))
    refine start_ (n := 8) (S := fun w' => (w'.cell? ⟨gf, 6, none⟩ = some (nx))) (ds := []) #[false, false, false, false, false, false, false, false] (by kernel_rfl) rfl rfl (show ((World.drew wr).cell? ⟨gf, 6, none⟩ = some (nx)) from (blk_cell p.out 6).trans rfl) (fun J => ?_)
    obtain ⟨M, l⟩ : ∃ W_, W_ = World.drew wr := ⟨_, rfl⟩
    rw [← l] at J ⊢
    have o : Fr (fun _ => False) wr M := (by rw [l]; exact (Fr.refl _ _).drew)
    replace A := A.f0 o
    replace c := c.b0 o
    replace b := b.b0 o
    replace p := p.b0 o
    replace W := W.q0 o
    replace Y := Aside0.mk (Y.out.fr o (fun _ _ h => h))
    replace Z := Z.k o
    clear o l
    clear j m D x
    apply puA 0 22
    apply puA 1 23
    apply puA 2 24
    apply puA 3 25
    apply puA 4 26
    apply tkA 5 27 J
    apply puA 6 10
    apply puA 7 2
    refine done_ (by kernel_rfl) ?_
    (try go_wp2)
    have hw : IntKind.i64.wrap ((d : Int) + 1) = ((d + 1 : Nat) : Int) := by simp only [List.length_cons] at hdl; rw [(wrap2 ((d : Int) + 1) (by omega) (by omega)).1]; omega
    rw [hw]
    go_roundg r.length
    case measure => simp
    case rel => exact ⟨r, d + 1, rfl, by simp only [List.length_cons] at hdl; omega, rfl, HN, Y, A, c, b⟩
theorem scope_find.calls {s : ByteArray} {F : Nat → Prop} {wb : Nat} {slots : List ByteArray} {fs : List SP.Fr} {fv : Value} (w : World) (hF : ∀ k, F k → k < w.heap.size) (hs : Slo F w wb slots) (hfs : Frs F w fv fs) (hl : fs.length ≤ 1073741824) : Calls Try.prog 36 #[.pointer (some ⟨wb, 0, none⟩), .string s, fv] w (FindA (SP.find slots s fs) w) := by
 cases hx : SP.fixed s with
 | none => exact scope_find.free w (fun w => by have h := scope_fixed.calls s w; unfold FixR at h; rw [hx] at h; exact h) hx hF hs hfs hl
 | some x =>
  have e : SP.find slots s fs = (⟨0, s, x.1, 0, x.2, false⟩, false) := by unfold SP.find; rw [hx]
  rw [e]
  exact scope_find.fixed w (fun w => by have h := scope_fixed.calls s w; unfold FixR at h; rw [hx] at h; exact h)
end Go.Proofs.Ytpodpmjlkbbkoaa.P
