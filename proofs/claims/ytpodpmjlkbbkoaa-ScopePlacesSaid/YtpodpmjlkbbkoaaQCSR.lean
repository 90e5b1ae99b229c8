import Derived.Test.YtpodpmjlkbbkoaaQCSC
import Derived.Test.YtpodpmjlkbbkoaaQCTG
import Derived.Recover
import Derived.Test.YtpodpmjlkbbkoaaQCTA
set_option linter.all false
namespace Go.Proofs.Ytpodpmjlkbbkoaa.P
open Go.RowKit Go.Proofs.YtpodpmjlkbbkoaaW.PrintWords Go.Proofs.YtpodpmjlkbbkoaaW.PrintLast Go.Proofs.YtpodpmjlkbbkoaaW.PrintMore
def kUse : Kd SP.Use := Kd.iso (Kd.pair (Kd.int .i64) (Kd.pair Kd.string (Kd.pair (Kd.int .i64) (Kd.pair (Kd.int .i64) (Kd.pair (Kd.int .i64) Kd.bool))))) (fun x : SP.Use => (x.place, x.name, x.kind, x.depth, x.index, x.write))
theorem kUse_M {w : World} {base : Nat} {ok : Nat → Prop} (x : SP.Use) : kUse.M w base ok x [.int .i64 x.place, .string x.name, .int .i64 x.kind, .int .i64 x.depth, .int .i64 x.index, .bool x.write] :=
 ⟨[_], _, rfl, rfl, ⟨[_], _, rfl, rfl, ⟨[_], _, rfl, rfl, ⟨[_], _, rfl, rfl, ⟨[_], [_], rfl, rfl, rfl⟩⟩⟩⟩⟩
theorem kUse_K {w : World} {x : SP.Use} {cs : List Value} (h : kUse.K w x cs) : cs = [.int .i64 x.place, .string x.name, .int .i64 x.kind, .int .i64 x.depth, .int .i64 x.index, .bool x.write] := by
 obtain ⟨a, b, rfl, ha, a2, b2, rfl, ha2, a3, b3, rfl, ha3, a4, b4, rfl, ha4, a5, b5, rfl, ha5, hb5⟩ := h
 obtain rfl : a = [_] := ha
 obtain rfl : a2 = [_] := ha2
 obtain rfl : a3 = [_] := ha3
 obtain rfl : a4 = [_] := ha4
 obtain rfl : a5 = [_] := ha5
 obtain rfl : b5 = [_] := hb5
 rfl
theorem info29 : (Try.prog.info? 29).map (fun i => (i.zero, i.size, i.bytes)) = some (some (.agg #[.int .i64 0, .string ⟨#[]⟩, .int .i64 0, .int .i64 0, .int .i64 0, .bool false]), 6, 56) := by kernel_rfl
theorem R_run_at {α : Type} (d : Kd α) (t ty e : TypeId) (z : Value) (bytes : Nat) (ht : Try.prog.underlying t = some (.slice e)) (hinfo : (Try.prog.info? e).map (fun i => (i.zero, i.size, i.bytes)) = some (some z, d.sz, bytes)) (hz : z.cells.size = d.sz) (hs0 : 0 < d.sz) (hb0 : 0 < bytes)
  {W : World} {S okp : Nat → Prop} {v : Value} {xs : List α} {p : α} {cs : List Value} {b : Nat} (hq : d.R e W 0 S v xs) (hp : d.M W 0 okp p cs) (hokp : ∀ k, okp k → S k ∧ some k ≠ v.ownBlock) (hfresh : ∀ k, W.heap.size ≤ k → S k)
  (hb : W.heap[b]? = some (.cells cs.toArray e (0, 0))) (hl : (xs.length + 1) * bytes ≤ 140737488355328) :
  ∃ v1 w1, (Builtin.append_ #[t, t] ty #[v, .slice (some ⟨b, 0, none⟩) 1 1]).run Try.prog W = .ok v1 w1 ∧ d.R e w1 0 S v1 (xs ++ [p]) ∧ Fr (fun k => v.ownBlock = some k) W w1 ∧ (v1.ownBlock = v.ownBlock ∨ ∃ b, v1.ownBlock = some b ∧ W.heap.size ≤ b) := by
 obtain ⟨h0, inner, hown, hr⟩ := hq
 obtain ⟨i0, hi, hzz⟩ := Option.map_eq_some_iff.1 hinfo
 simp only [Prod.mk.injEq] at hzz
 obtain ⟨hz0, hz1, hz2⟩ := hzz
 have hlen : xs.length + 1 ≤ 140737488355328 := Nat.le_trans (Nat.le_mul_of_pos_right _ hb0) hl
 have hcl := d.K_len (d.K_of_M hp)
 obtain ⟨v1, w1, hrun, hq1, hg1, _, hat⟩ := run_append_own_at (P := Try.prog) W 0 t ty e i0 z d.sz bytes ht hi hz0 hz1 hz2 hz hs0 v xs.length inner hown ⟨b, 0, none⟩ 1 1 cs (by rw [hcl, Nat.one_mul])
  (by simpa using World.news_of_block (cs := cs.toArray) (t := e) (fr := (0, 0)) hb) (d.K_one (d.K_of_M hp)) (by simp only [maxLen]; omega) hl (Nat.zero_le _)
 have hat2 : v1.ownBlock = v.ownBlock ∨ ∃ b, v1.ownBlock = some b ∧ W.heap.size ≤ b := hat.elim .inl (fun h => .inr ⟨_, h, Nat.le_refl _⟩)
 exact ⟨v1, w1, hrun, Kd.R_appended h0 hr hp hokp hfresh hq1 hg1 hat2, (Fr.refl _ _).grown hg1 (fun k hk => .inl hk), hat2⟩
theorem R_mono' {α : Type} {d : Kd α} {e : Nat} {S T : Nat → Prop} {w : World} {v : Value} {xs : List α} (h : d.R e w 0 S v xs) (hs : ∀ k, S k → k < w.heap.size → T k) : d.R e w 0 T v xs := Kd.R_mono (Kd.R_bound h) (fun k hk => hs k hk.1 hk.2.2.1)
theorem Fr.R {α : Type} {S : Nat → Prop} {w w' : World} {d : Kd α} {e base : Nat} {ok : Nat → Prop} {v : Value} {xs : List α} (h : Fr S w w') (hq : d.R e w base ok v xs) (hne : ∀ k, ok k → ¬ S k) : d.R e w' base ok v xs := Kd.R_kept hq h.2 hne
end Go.Proofs.Ytpodpmjlkbbkoaa.P
namespace Go.Proofs.YtpodpmjlkbbkoaaW.PrintWords
open Go.Proofs.Ytpodpmjlkbbkoaa.P
section
variable {T : Nat → Prop} {v v' : World} {g : Nat}
theorem Aside0.r0 {α : Type} {e : Nat} {D : Kd α} {u : Value} {xs : List α} (h : Aside0 (D.R e v 0 T u xs)) (K : Fr (fun _ => False) v v') : Aside0 (D.R e v' 0 T u xs) := ⟨K.R h.out (fun _ _ h => h)⟩
theorem Aside0.r1 {α : Type} {e : Nat} {D : Kd α} {u : Value} {xs : List α} (h : Aside0 (D.R e v 0 T u xs)) (K : Fr (fun k => k = g) v v') (hg : ∀ k, T k → k ≠ g) : Aside0 (D.R e v' 0 T u xs) := ⟨K.R h.out hg⟩
end
end Go.Proofs.YtpodpmjlkbbkoaaW.PrintWords
namespace Go.Proofs.Ytpodpmjlkbbkoaa.P
open Go.RowKit Go.Proofs.YtpodpmjlkbbkoaaW.PrintWords Go.Proofs.YtpodpmjlkbbkoaaW.PrintLast Go.Proofs.YtpodpmjlkbbkoaaW.PrintMore
theorem use_push {W : World} {S : Nat → Prop} {v : Value} {us : List SP.Use} {b : Nat} {u : SP.Use} (ty : TypeId) (m : Nat) (hm : ∀ k, v.ownBlock = some k → k < m) (hq : kUse.R 29 W 0 S v us) (hfresh : ∀ k, W.heap.size ≤ k → S k) (hSb : S b)
  (hb : W.heap[b]? = some (.cells (useC u) 29 (0, 0))) (hl : us.length < 1099511627776) :
  ∃ A1 c1 w1 q, (Builtin.append_ #[23, 23] ty #[v, .slice (some ⟨b, 0, none⟩) 1 1]).run Try.prog W = .ok (.slice A1 (us.length + 1) c1) w1 ∧ kUse.R 29 w1 0 S (.slice A1 (us.length + 1) c1) (us ++ [u]) ∧ Fr (fun k => k = q) W w1 ∧ (S q ∧ (q < m ∨ q = b) ∧ q < W.heap.size) := by
 obtain ⟨v1, w1, hr, h1, h2, h3⟩ := R_run_at kUse 23 ty 29 _ 56 Try.underlying23 info29 rfl (by decide) (by decide) (okp := fun _ => False) (p := u) (cs := [_, _, _, _, _, _]) hq (kUse_M u) (fun k hk => hk.elim) hfresh hb (by omega)
 obtain ⟨A1, c1, rfl⟩ := Kd.R_slice h1
 have hlen : (us ++ [u]).length = us.length + 1 := by simp
 rw [hlen] at hr h1
 have hbl := blk_lt hb
 obtain ⟨q, hq1, hq2, hq3, hq4⟩ : ∃ q, (∀ k, v.ownBlock = some k → k = q) ∧ S q ∧ (q < m ∨ q = b) ∧ q < W.heap.size := by
  cases hv : v.ownBlock with
  | none => exact ⟨b, fun k hk => (by cases hk), hSb, .inr rfl, hbl⟩
  | some k => exact ⟨k, fun j hj => (Option.some.inj hj).symm, hq.1 k hv, .inl (hm k hv), Kd.R_lt hq k hv⟩
 exact ⟨A1, c1, w1, q, hr, h1, h2.mono hq1, hq2, hq3, hq4⟩
theorem kUse_openM {w : World} {base : Nat} {ok : Nat → Prop} {x : SP.Use} {cs : List Value} (h : kUse.M w base ok x cs) : cs = [.int .i64 x.place, .string x.name, .int .i64 x.kind, .int .i64 x.depth, .int .i64 x.index, .bool x.write] := by
 obtain ⟨a, b, rfl, ha, a2, b2, rfl, ha2, a3, b3, rfl, ha3, a4, b4, rfl, ha4, a5, b5, rfl, ha5, hb5⟩ := h
 obtain rfl : a = [_] := ha
 obtain rfl : a2 = [_] := ha2
 obtain rfl : a3 = [_] := ha3
 obtain rfl : a4 = [_] := ha4
 obtain rfl : a5 = [_] := ha5
 obtain rfl : b5 = [_] := hb5
 rfl
theorem use_own {w : World} {S : Nat → Prop} {v : Value} {us : List SP.Use} (h : kUse.R 29 w 0 S v us) (d : Nat) (hd : S d ∧ d < w.heap.size) : ∃ q, S q ∧ q < w.heap.size ∧ kUse.R 29 w 0 (fun k => k = q) v us := by
 have go : ∀ q, (∀ k, v.ownBlock = some k → k = q) → kUse.R 29 w 0 (fun k => k = q) v us := fun q hq => by
  obtain ⟨h0, inner, ho, hr⟩ := h
  exact ⟨hq, inner, ho, hr.imp_ (fun x cs hp => by rw [kUse_openM hp]; exact kUse_M x)⟩
 cases hv : v.ownBlock with
 | none => exact ⟨d, hd.1, hd.2, go d (fun k hk => by rw [hv] at hk; cases hk)⟩
 | some k => exact ⟨k, h.1 k hv, Kd.R_lt h k hv, go k (fun j hj => by rw [hv] at hj; exact (Option.some.inj hj).symm)⟩
def stopS (p : Int) : List PanicEntry := [{ v := .iface 50 (.agg #[.int .i64 p]), recovered := false }]
end Go.Proofs.Ytpodpmjlkbbkoaa.P
set_option maxHeartbeats 16000000
set_option maxRecDepth 100000
namespace Go.Proofs.Ytpodpmjlkbbkoaa.P
open Go.RowKit Go.Proofs.YtpodpmjlkbbkoaaW.PrintWords Go.Proofs.YtpodpmjlkbbkoaaW.PrintLast Go.Proofs.YtpodpmjlkbbkoaaW.PrintMore
theorem resolve1_idle (p4 p5 p6 : Addr) (w : World) :
  CallsD Try.prog 16 #[.pointer (some p4), .pointer (some p5), .pointer (some p6)] .returning w fun e u' w' => e = .returned (.tuple #[]) ∧ u' = .returning ∧ w' = w := by
 have hnil : ∀ w : World, (binOp BinOp.eql 20 .nilIface .nilIface).run Try.prog w = .ok (.bool true) w := fun _ => by kernel_rfl
 refine callsD_of_wpS Try.func16 rfl fun c₀ cs hu => ?_
 apply wpS_seq
 apply wpS_region
 simp [wpOpsS, go_sem, recoverD, hu, Try.ntmps16, Exit.thenS]
 refine wpS_of_wp ?_
 go_wp2
 cases c₀
 simp_all [bodyPostS, results, Try.results16]
theorem resolve1_stop (g4 g5 g6 : Nat) (at_ : Int) (older : List PanicEntry) (w : World) (v4 v5 v6 : Value) (h45 : g4 ≠ g5) (h46 : g4 ≠ g6) (h56 : g5 ≠ g6) (h4 : w.heap[g4]? = some (.cells #[v4] 23 (0, 0))) (h5 : w.heap[g5]? = some (.cells #[v5] 3 (0, 0))) (h6 : w.heap[g6]? = some (.cells #[v6] 24 (0, 0))) :
  CallsD Try.prog 16 #[.pointer (some ⟨g4, 0, none⟩), .pointer (some ⟨g5, 0, none⟩), .pointer (some ⟨g6, 0, none⟩)] (.panicking ({ v := .iface 50 (.agg #[.int .i64 at_]), recovered := false } :: older)) w fun e u' w' =>
   e = .returned (.tuple #[]) ∧ u' = .panicking ({ v := .iface 50 (.agg #[.int .i64 at_]), recovered := true } :: older) ∧ w'.heap[g4]? = some (.cells #[.slice none 0 0] 23 (0, 0)) ∧ w'.heap[g5]? = some (.cells #[.int .i64 at_] 3 (0, 0)) ∧ w'.heap[g6]? = some (.cells #[.int .i64 21] 24 (0, 0)) ∧ Fr (fun k => k = g4 ∨ k = g5 ∨ k = g6) w w' := by
 have hnil : ∀ w : World, (binOp BinOp.eql 20 (.iface 50 (.agg #[.int .i64 at_])) .nilIface).run Try.prog w = .ok (.bool false) w := fun _ => by kernel_rfl
 refine callsD_of_wpS Try.func16 rfl fun c₀ cs hu => ?_
 apply wpS_seq
 apply wpS_region
 simp [wpOpsS, go_sem, recoverD, hu, Try.ntmps16, Exit.thenS]
 have hta : ∀ w : World, (Instr.typeAssert (.iface 50 (.agg #[.int .i64 at_])) 20 50 true).run Try.prog w = .ok (.tuple #[.agg #[.int .i64 at_], .bool true]) w := fun _ => by kernel_rfl
 refine wpS_of_wp ?_
 change Code.wp Try.prog _ _ { tmps := #[.pointer (some ⟨g4, 0, none⟩), .pointer (some ⟨g5, 0, none⟩), .pointer (some ⟨g6, 0, none⟩), undef, undef, undef, .iface 50 (.agg #[.int .i64 at_]), undef, undef, undef, undef, undef, undef, undef], defers := [] } w
 have t := Aside0.mk (Fr.refl (fun k => k = g4 ∨ k = g5 ∨ k = g6) w)
 have b := Aside0.mk h4
 have c := Aside0.mk h5
 have d := Aside0.mk h6
 have Z := Aside0.mk (And.intro h45 (And.intro h46 (And.intro h56 (And.intro (blk_lt h4) (And.intro (blk_lt h5) (And.intro (blk_lt h6) (Nat.le_refl w.heap.size)))))))
 clear h4 h5 h6 h45 h46 h56
 go_wp2_with (first
  | ((with_reducible refine gate_dst (N := 4) rfl ?_); apply boxE 4 #[.int .i64 0] 50; intro gs I i j B; replace t := t.f0 j; replace b := b.b0 j; replace c := c.b0 j; replace d := d.b0 j; replace Z := Z.a B; clear B j; have o := b.e1; have p := c.e1; have q := d.e1; have r := i.e1; have A : g4 ≠ g5 ∧ g5 ≠ g4 ∧ g4 ≠ g6 ∧ g6 ≠ g4 ∧ g4 ≠ gs ∧ gs ≠ g4 ∧ gs ≠ g5 ∧ g5 ≠ gs ∧ gs ≠ g6 ∧ g6 ≠ gs ∧ g6 ≠ g5 ∧ g5 ≠ g6 := (by have y := Z.out; omega)))
 have s := i.s1 (.int .i64 at_)
 clear i
 obtain ⟨D, l, j, i⟩ := s
 rw [l]
 clear l
 have y := Z.out
 replace t := t.f1 j (by omega)
 replace b := b.b1 j (by omega)
 replace c := c.b1 j (by omega)
 replace d := d.b1 j (by omega)
 clear y
 replace Z := Z.k j
 clear j
 clear o p q r A
 have o := b.e1
 have p := c.e1
 have q := d.e1
 have r := i.e1
 have A : g4 ≠ g5 ∧ g5 ≠ g4 ∧ g4 ≠ g6 ∧ g6 ≠ g4 ∧ g4 ≠ gs ∧ gs ≠ g4 ∧ gs ≠ g5 ∧ g5 ≠ gs ∧ gs ≠ g6 ∧ g6 ≠ gs ∧ g6 ≠ g5 ∧ g5 ≠ g6 := (by have y := Z.out; omega)
 refine start_ (n := 5) (S := fun w' => (w'.cell? ⟨gs, 0, none⟩ = some (.int .i64 at_))) (ds := []) #[false, false, false, false, false] (by kernel_rfl) rfl rfl (show ((World.drew D).cell? ⟨gs, 0, none⟩ = some (.int .i64 at_)) from (blk_cell i.out 0).trans rfl) (fun m => ?_)
 obtain ⟨G, l⟩ : ∃ W_, W_ = World.drew D := ⟨_, rfl⟩
 rw [← l] at m ⊢
 have j : Fr (fun _ => False) D G := (by rw [l]; exact (Fr.refl _ _).drew)
 replace t := t.f0 j
 replace b := b.b0 j
 replace c := c.b0 j
 replace d := d.b0 j
 replace i := i.b0 j
 replace Z := Z.k j
 clear j l
 clear o p q r A
 apply puA 0 12
 apply tkA 1 13 m
 apply oN 2 none; intro K hK
 have u := b.z
 have x := b.c1
 have s := b.s1 (.slice none 0 0)
 clear b
 obtain ⟨v4, l, j, b⟩ := s
 refine skip_ (w1 := v4) (by rfl) rfl ?_ ?_
 ·rw [← l]
  clear l
  go_simp
  (try rfl)
 have y := Z.out
 replace t := t.f1 j (by omega)
 replace c := c.b1 j (by omega)
 replace d := d.b1 j (by omega)
 replace i := i.b1 j (by omega)
 clear y
 replace Z := Z.k j
 clear u x l j
 refine hK.out _ _ (show (v4.cell? ⟨gs, 0, none⟩ = some (.int .i64 at_)) from (blk_cell i.out 0).trans rfl) (fun m => ?_)
 clear hK K
 apply oN 3 none; intro K hK
 have u := c.z
 have x := c.c1
 have s := c.s1 (.int .i64 at_)
 clear c
 obtain ⟨v5, l, j, c⟩ := s
 refine skip_ (w1 := v5) (by rfl) rfl ?_ ?_
 ·rw [← l]
  clear l
  go_simp
  (try rfl)
 have y := Z.out
 replace t := t.f1 j (by omega)
 replace b := b.b1 j (by omega)
 replace d := d.b1 j (by omega)
 replace i := i.b1 j (by omega)
 clear y
 replace Z := Z.k j
 clear u x l j
 refine hK.out _ _ (show (v5.cell? ⟨gs, 0, none⟩ = some (.int .i64 at_)) from (blk_cell i.out 0).trans rfl) (fun m => ?_)
 clear hK K
 apply oN 4 none; intro K hK
 have u := d.z
 have x := d.c1
 have s := d.s1 (.int .i64 21)
 clear d
 obtain ⟨v6, l, j, d⟩ := s
 refine skip_ (w1 := v6) (by rfl) rfl ?_ ?_
 ·rw [← l]
  clear l
  go_simp
  (try rfl)
 have y := Z.out
 replace t := t.f1 j (by omega)
 replace b := b.b1 j (by omega)
 replace c := c.b1 j (by omega)
 replace i := i.b1 j (by omega)
 clear y
 replace Z := Z.k j
 clear u x l j
 refine hK.out _ _ (show (v6.cell? ⟨gs, 0, none⟩ = some (.int .i64 at_)) from (blk_cell i.out 0).trans rfl) (fun m => ?_)
 clear hK K
 refine done_ (by kernel_rfl) ?_
 go_wp2
 simp [bodyPostS, results, Try.results16]
 exact ⟨b.out, c.out, d.out, t.out⟩
theorem results_s3 {fn : Func} (h : fn.results = #[.cell 4 23, .cell 5 3, .cell 6 24]) (tmps : Array Value) (w : World) (g1 g2 g3 : Nat) (v1 v2 v3 : Value)
  (hp : tmps.getD 4 undef = .pointer (some ⟨g1, 0, none⟩)) (hq : tmps.getD 5 undef = .pointer (some ⟨g2, 0, none⟩)) (hr : tmps.getD 6 undef = .pointer (some ⟨g3, 0, none⟩))
  (e1 : (loadVar 23 ⟨g1, 0, none⟩).run Try.prog w = .ok v1 w) (e2 : (loadVar 3 ⟨g2, 0, none⟩).run Try.prog w = .ok v2 w) (e3 : (loadVar 24 ⟨g3, 0, none⟩).run Try.prog w = .ok v3 w) :
  (results fn tmps).run Try.prog w = .ok (.tuple #[v1, v2, v3]) w := by
 have hp' : tmps[4]?.getD undef = .pointer (some ⟨g1, 0, none⟩) := by simpa using hp
 have hq' : tmps[5]?.getD undef = .pointer (some ⟨g2, 0, none⟩) := by simpa using hq
 have hr' : tmps[6]?.getD undef = .pointer (some ⟨g3, 0, none⟩) := by simpa using hr
 simp [results, h, hp', hq', hr', asAddr, e1, e2, e3]
theorem ldI {w : World} {g : Nat} {t : TypeId} {x : Int} (ht : t = 3 ∨ t = 24) (h : w.heap[g]? = some (.cells #[.int .i64 x] t (0, 0))) : (loadVar t ⟨g, 0, none⟩).run Try.prog w = .ok (.int .i64 x) w := by
 have hc := (blk_cell h 0).trans rfl
 rcases ht with rfl | rfl <;> go_simp
theorem ld23 {w : World} {g : Nat} {A : Option Addr} {n c : Nat} (h : w.heap[g]? = some (.cells #[.slice A n c] 23 (0, 0))) : (loadVar 23 ⟨g, 0, none⟩).run Try.prog w = .ok (.slice A n c) w := by
 have hc := (blk_cell h 0).trans rfl
 go_simp
theorem resolve_stop {R : Ending → World → Prop} {tmps : Array Value} {w : World} {g4 g5 g6 : Nat} {at_ : Int} {v4 v5 v6 : Value} (t4 : tmps.getD 4 undef = .pointer (some ⟨g4, 0, none⟩)) (t5 : tmps.getD 5 undef = .pointer (some ⟨g5, 0, none⟩)) (t6 : tmps.getD 6 undef = .pointer (some ⟨g6, 0, none⟩))
  (hn : g4 ≠ g5 ∧ g4 ≠ g6 ∧ g5 ≠ g6) (h4 : w.heap[g4]? = some (.cells #[v4] 23 (0, 0))) (h5 : w.heap[g5]? = some (.cells #[v5] 3 (0, 0))) (h6 : w.heap[g6]? = some (.cells #[v6] 24 (0, 0)))
  (hR : ∀ w', Fr (fun k => k = g4 ∨ k = g5 ∨ k = g6) w w' → R (.returned (.tuple #[.slice none 0 0, .int .i64 at_, .int .i64 21])) w') :
  Leaves Try.prog Proofs.Try.f12 tmps R [{ target := .fn (.func 16) #[.pointer (some ⟨g4, 0, none⟩), .pointer (some ⟨g5, 0, none⟩), .pointer (some ⟨g6, 0, none⟩)], args := #[] }] (.panicking (stopS at_)) w := by
 refine leaves_cons (f := 16) (args := #[.pointer (some ⟨g4, 0, none⟩), .pointer (some ⟨g5, 0, none⟩), .pointer (some ⟨g6, 0, none⟩)]) (by simp) (by simp [go_sem]) ?_
 refine (resolve1_stop g4 g5 g6 at_ [] w v4 v5 v6 hn.1 hn.2.1 hn.2.2 h4 h5 h6).mono ?_
 rintro e u' w'' ⟨rfl, rfl, k4, k5, k6, hF⟩
 exact ⟨_, results_s3 rfl _ _ g4 g5 g6 _ _ _ t4 t5 t6 (ld23 k4) (ldI (Or.inl rfl) k5) (ldI (Or.inr rfl) k6), hR _ hF⟩
theorem resolve_idle {R : Ending → World → Prop} {tmps : Array Value} {w : World} {g4 g5 g6 : Nat} {A : Option Addr} {n c : Nat} {p e : Int} (t4 : tmps.getD 4 undef = .pointer (some ⟨g4, 0, none⟩)) (t5 : tmps.getD 5 undef = .pointer (some ⟨g5, 0, none⟩)) (t6 : tmps.getD 6 undef = .pointer (some ⟨g6, 0, none⟩))
  (h4 : w.heap[g4]? = some (.cells #[.slice A n c] 23 (0, 0))) (h5 : w.heap[g5]? = some (.cells #[.int .i64 p] 3 (0, 0))) (h6 : w.heap[g6]? = some (.cells #[.int .i64 e] 24 (0, 0)))
  (hR : R (.returned (.tuple #[.slice A n c, .int .i64 p, .int .i64 e])) w) :
  Leaves Try.prog Proofs.Try.f12 tmps R [{ target := .fn (.func 16) #[.pointer (some ⟨g4, 0, none⟩), .pointer (some ⟨g5, 0, none⟩), .pointer (some ⟨g6, 0, none⟩)], args := #[] }] .returning w := by
 refine leaves_cons (f := 16) (args := #[.pointer (some ⟨g4, 0, none⟩), .pointer (some ⟨g5, 0, none⟩), .pointer (some ⟨g6, 0, none⟩)]) (by simp) (by simp [go_sem]) ?_
 refine (resolve1_idle _ _ _ w).mono ?_
 rintro e u' w'' ⟨rfl, rfl, rfl⟩
 exact ⟨_, results_s3 rfl _ _ g4 g5 g6 _ _ _ t4 t5 t6 (ld23 h4) (ldI (Or.inl rfl) h5) (ldI (Or.inr rfl) h6), hR⟩
end Go.Proofs.Ytpodpmjlkbbkoaa.P
