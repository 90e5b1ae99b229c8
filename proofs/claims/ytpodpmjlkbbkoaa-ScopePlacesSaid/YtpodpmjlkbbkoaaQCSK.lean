import Derived.WalkSmall
import Derived.Test.YtpodpmjlkbbkoaaQCSR
import Derived.Test.YtpodpmjlkbbkoaaQCTA
set_option linter.all false
set_option maxHeartbeats 16000000
set_option maxRecDepth 100000
namespace Go.Proofs.Ytpodpmjlkbbkoaa.P
open Go.RowKit Go.Proofs.YtpodpmjlkbbkoaaW.PrintWords Go.Proofs.YtpodpmjlkbbkoaaW.PrintLast Go.Proofs.YtpodpmjlkbbkoaaW.PrintMore
def WSt (F : Nat → Prop) (q : Nat) (w : World) (wb : Nat) (As : Option Addr) (cs : Nat) (slots : List ByteArray) (acc : List SP.Use) : Prop := ∃ Al cl, w.heap[wb]? = some (.cells #[.slice As slots.length cs, .slice Al acc.length cl] 53 (0, 0)) ∧ SL F w As cs slots ∧ kUse.R 29 w 0 (fun k => k = q) (.slice Al acc.length cl) acc
def PartA (q wb : Nat) (As : Option Addr) (cs n : Nat) (r : SP.W) (w : World) (e : Ending) (w' : World) : Prop := match r with
 | .error p => e = .panicked (stopS p) ∧ Fr (fun k => k = wb ∨ k = q) w w'
 | .ok acc => e = .returned (.tuple #[]) ∧ (∃ q', (q' = q ∨ w.heap.size ≤ q') ∧ q' ≠ wb ∧ q' < w'.heap.size ∧ ∃ Al cl, w'.heap[wb]? = some (.cells #[.slice As n cs, .slice Al acc.length cl] 53 (0, 0)) ∧ kUse.R 29 w' 0 (fun k => k = q') (.slice Al acc.length cl) acc) ∧ Fr (fun k => k = wb ∨ k = q) w w'
theorem PartA.old {q wb : Nat} {As : Option Addr} {cs n : Nat} {r : SP.W} {w v w' : World} {e : Ending} (h : PartA q wb As cs n r v e w') (hf : Fr (fun k => k = wb ∨ k = q) w v) : PartA q wb As cs n r w e w' := by
 cases r with
 | error p => exact ⟨h.1, hf.then_ h.2 (fun k hk => .inl hk)⟩
 | ok acc =>
  obtain ⟨h1, ⟨q', hq, h2, h3, h4⟩, h5⟩ := h
  exact ⟨h1, ⟨q', hq.elim .inl (fun h => .inr (Nat.le_trans hf.size h)), h2, h3, h4⟩, hf.then_ h5 (fun k hk => .inl hk)⟩
theorem scope_part.varNo {x : SP.Nd} {slots : List ByteArray} {fs : List SP.Fr} {acc : List SP.Use} {wb q : Nat} {fv : Value} {rcv : Bool} {An Ak As : Option Addr} {cn ck cs : Nat} (w : World) (hq : q < w.heap.size) (hqw : q ≠ wb) (hw : WSt (fun k => k < w.heap.size ∧ k ≠ wb ∧ k ≠ q) q w wb As cs slots acc) (hx : NQ (fun k => k < w.heap.size ∧ k ≠ wb ∧ k ≠ q) w x (.slice An x.names.length cn) (.slice Ak x.kids.length ck)) (hfs : Frs (fun k => k < w.heap.size ∧ k ≠ wb ∧ k ≠ q) w fv fs) (hl : fs.length ≤ 1073741824) (ha : acc.length < 1099511627776) (hk : (x.kind == 5) = true) (hc_ : (((SP.find slots x.text fs).1.kind == -1) = true) ∨ (((SP.find slots x.text fs).1.kind == -1) = false ∧ ((SP.find slots x.text fs).1.kind == 1) = true ∧ rcv = false)) : Calls Try.prog 27 #[.pointer (some ⟨wb, 0, none⟩), .agg #[.int .i64 x.kind, .string x.text, .int .i64 x.place, .int .i64 x.n, .slice An x.names.length cn, .slice Ak x.kids.length ck], fv, .bool rcv] w (PartA q wb As cs slots.length (.error x.place) w) := by
 rcases hc_ with hb | ⟨hb, hb1, rfl⟩
 all_goals (
  have hu29 := Try.underlying29
  have hu36 := Try.underlying36
  have r := Aside0.mk (Fr.refl (fun k => k = wb ∨ k = q) w)
  obtain ⟨Al, cl, m, hqs_, hqu_⟩ := hw
  have b := Aside0.mk m
  have s := Aside0.mk hqs_
  have v := Aside0.mk hqu_
  have t := Aside0.mk hfs
  have j := Aside0.mk hx
  have Z := Aside0.mk (And.intro hq (And.intro hqw (And.intro (blk_lt m) (Nat.le_refl w.heap.size))))
  have D := Aside0.mk (show ∀ k, (k < w.heap.size ∧ k ≠ wb ∧ k ≠ q) → (k < w.heap.size ∧ k ≠ wb ∧ k ≠ q) from fun _ h => h)
  clear m hqs_ hqu_ hfs hx hq hqw
  go_enter Try.func27, Try.ntmps27
  go_wp2_with (first
   | ((with_reducible refine gate_dst (N := 5) rfl ?_); apply boxE 5 #[.int .i64 x.kind, .string x.text, .int .i64 x.place, .int .i64 x.n, .slice An x.names.length cn, .slice Ak x.kids.length ck] 36; intro A I d c o; replace r := r.f0 c; replace b := b.b0 c; replace s := s.l0 c; replace v := v.r0 c; replace t := Aside0.mk (t.out.fr c (fun _ _ h => h)); replace j := j.n0 c; replace Z := Z.a o; clear o c; have e := b.c2; have i := d.c6)
   | ((with_reducible refine gate_dst (N := 23) rfl ?_); apply goE 23 Try.func36 (scope_find.calls (F := fun k => k < w.heap.size ∧ k ≠ wb ∧ k ≠ q) I (fun k hk => by have B := Z.out; omega) ⟨_, _, _, b.out, s.out⟩ t.out hl); rintro M J ⟨rfl, m⟩; refine Or.inl ⟨_, rfl, ?_⟩; simp only [useC]; have c : Fr (fun _ => False) I J := Fr.of_below m; replace r := r.f0 c; replace b := b.b0 c; replace s := s.l0 c; replace v := v.r0 c; replace t := Aside0.mk (t.out.fr c (fun _ _ h => h)); replace j := j.n0 c; replace d := d.b0 c; replace Z := Z.k c; clear c m; clear e i; have e := b.c2; have i := d.c6)
   | ((with_reducible refine gate_dst (N := 8) rfl ?_); apply boxE 8 #[.int .i64 0, .string ⟨#[]⟩, .int .i64 0, .int .i64 0, .int .i64 0, .bool false] 29; intro u O l c o; replace r := r.f0 c; replace b := b.b0 c; replace s := s.l0 c; replace v := v.r0 c; replace t := Aside0.mk (t.out.fr c (fun _ _ h => h)); replace j := j.n0 c; replace d := d.b0 c; replace Z := Z.a o; clear o c; clear e i; have e := b.c2; have i := d.c6; have p := l.e6; have y : u ≠ wb ∧ wb ≠ u ∧ u ≠ A ∧ A ≠ u := (by have B := Z.out; omega)))
  have G := l.s6 (.int .i64 (SP.find slots x.text fs).1.place) (.string (SP.find slots x.text fs).1.name) (.int .i64 (SP.find slots x.text fs).1.kind) (.int .i64 (SP.find slots x.text fs).1.depth) (.int .i64 (SP.find slots x.text fs).1.index) (.bool (SP.find slots x.text fs).1.write)
  clear l
  obtain ⟨U, z, c, l⟩ := G
  rw [z]
  clear z
  have B := Z.out
  replace r := r.f1 c (by omega)
  replace b := b.b1 c (by omega)
  replace s := s.l1 c (fun k hk => by omega)
  replace v := v.r1 c (fun k hk => by omega)
  replace t := Aside0.mk (t.out.fr c (fun k hk => (show ¬ (k = u) from by have := D.out k hk; omega)))
  replace j := j.n1 c (fun k hk => by omega)
  replace d := d.b1 c (by omega)
  clear B
  replace Z := Z.k c
  clear c
  clear e i p y
  have e := b.c2
  have i := d.c6
  have p := l.e6
  have y : u ≠ wb ∧ wb ≠ u ∧ u ≠ A ∧ A ≠ u := (by have B := Z.out; omega)
  exact ⟨rfl, rfl, r.out⟩)
theorem scope_part.varBad {x : SP.Nd} {slots : List ByteArray} {fs : List SP.Fr} {acc : List SP.Use} {wb q : Nat} {fv : Value} {rcv : Bool} {An Ak As : Option Addr} {cn ck cs : Nat} (w : World) (hq : q < w.heap.size) (hqw : q ≠ wb) (hw : WSt (fun k => k < w.heap.size ∧ k ≠ wb ∧ k ≠ q) q w wb As cs slots acc) (hx : NQ (fun k => k < w.heap.size ∧ k ≠ wb ∧ k ≠ q) w x (.slice An x.names.length cn) (.slice Ak x.kids.length ck)) (hfs : Frs (fun k => k < w.heap.size ∧ k ≠ wb ∧ k ≠ q) w fv fs) (hl : fs.length ≤ 1073741824) (ha : acc.length < 1099511627776) (hk : (x.kind == 5) = true) (hb : ((SP.find slots x.text fs).1.kind == -1) = true) : Calls Try.prog 27 #[.pointer (some ⟨wb, 0, none⟩), .agg #[.int .i64 x.kind, .string x.text, .int .i64 x.place, .int .i64 x.n, .slice An x.names.length cn, .slice Ak x.kids.length ck], fv, .bool rcv] w (PartA q wb As cs slots.length (.error x.place) w) := scope_part.varNo w hq hqw hw hx hfs hl ha hk (Or.inl hb)
theorem scope_part.varSuper {x : SP.Nd} {slots : List ByteArray} {fs : List SP.Fr} {acc : List SP.Use} {wb q : Nat} {fv : Value} {rcv : Bool} {An Ak As : Option Addr} {cn ck cs : Nat} (w : World) (hq : q < w.heap.size) (hqw : q ≠ wb) (hw : WSt (fun k => k < w.heap.size ∧ k ≠ wb ∧ k ≠ q) q w wb As cs slots acc) (hx : NQ (fun k => k < w.heap.size ∧ k ≠ wb ∧ k ≠ q) w x (.slice An x.names.length cn) (.slice Ak x.kids.length ck)) (hfs : Frs (fun k => k < w.heap.size ∧ k ≠ wb ∧ k ≠ q) w fv fs) (hl : fs.length ≤ 1073741824) (ha : acc.length < 1099511627776) (hk : (x.kind == 5) = true) (hb : ((SP.find slots x.text fs).1.kind == -1) = false) (hb1 : ((SP.find slots x.text fs).1.kind == 1) = true) (hr : rcv = false) : Calls Try.prog 27 #[.pointer (some ⟨wb, 0, none⟩), .agg #[.int .i64 x.kind, .string x.text, .int .i64 x.place, .int .i64 x.n, .slice An x.names.length cn, .slice Ak x.kids.length ck], fv, .bool rcv] w (PartA q wb As cs slots.length (.error x.place) w) := scope_part.varNo w hq hqw hw hx hfs hl ha hk (Or.inr (⟨hb, hb1, hr⟩))
theorem scope_part.var {x : SP.Nd} {slots : List ByteArray} {fs : List SP.Fr} {acc : List SP.Use} {wb q : Nat} {fv : Value} {rcv : Bool} {An Ak As : Option Addr} {cn ck cs : Nat} (w : World) (hq : q < w.heap.size) (hqw : q ≠ wb) (hw : WSt (fun k => k < w.heap.size ∧ k ≠ wb ∧ k ≠ q) q w wb As cs slots acc) (hx : NQ (fun k => k < w.heap.size ∧ k ≠ wb ∧ k ≠ q) w x (.slice An x.names.length cn) (.slice Ak x.kids.length ck)) (hfs : Frs (fun k => k < w.heap.size ∧ k ≠ wb ∧ k ≠ q) w fv fs) (hl : fs.length ≤ 1073741824) (ha : acc.length < 1099511627776) (hk : (x.kind == 5) = true) (hb : ((SP.find slots x.text fs).1.kind == -1) = false) (hc_ : (((SP.find slots x.text fs).1.kind == 1) = false) ∨ (((SP.find slots x.text fs).1.kind == 1) = true ∧ rcv = true)) : Calls Try.prog 27 #[.pointer (some ⟨wb, 0, none⟩), .agg #[.int .i64 x.kind, .string x.text, .int .i64 x.place, .int .i64 x.n, .slice An x.names.length cn, .slice Ak x.kids.length ck], fv, .bool rcv] w (PartA q wb As cs slots.length (.ok (acc ++ [{ (SP.find slots x.text fs).1 with place := x.place }])) w) := by
 rcases hc_ with hb1 | ⟨hb1, rfl⟩
 all_goals (
  have hu29 := Try.underlying29
  have hu36 := Try.underlying36
  have v := Aside0.mk (Fr.refl (fun k => k = wb ∨ k = q) w)
  obtain ⟨Al, cl, y, hqs_, hqu_⟩ := hw
  have c := Aside0.mk y
  have A := Aside0.mk hqs_
  have s := Aside0.mk hqu_
  have B := Aside0.mk hfs
  have m := Aside0.mk hx
  have Z := Aside0.mk (And.intro hq (And.intro hqw (And.intro (blk_lt y) (Nat.le_refl w.heap.size))))
  have U := Aside0.mk (show ∀ k, (k < w.heap.size ∧ k ≠ wb ∧ k ≠ q) → (k < w.heap.size ∧ k ≠ wb ∧ k ≠ q) from fun _ h => h)
  clear y hqs_ hqu_ hfs hx hq hqw
  have HM := Aside0.mk (fun k hk => Kd.R_lt s.out k hk)
  go_enter Try.func27, Try.ntmps27
  go_wp2_with (first
   | ((with_reducible refine gate_dst (N := 5) rfl ?_); apply boxE 5 #[.int .i64 x.kind, .string x.text, .int .i64 x.place, .int .i64 x.n, .slice An x.names.length cn, .slice Ak x.kids.length ck] 36; intro L v1 e d J; replace v := v.f0 d; replace c := c.b0 d; replace A := A.l0 d; replace s := s.r0 d; replace B := Aside0.mk (B.out.fr d (fun _ _ h => h)); replace m := m.n0 d; replace Z := Z.a J; clear J d; have i := c.c2; have j := e.c6)
   | ((with_reducible refine gate_dst (N := 23) rfl ?_); apply goE 23 Try.func36 (scope_find.calls (F := fun k => k < w.heap.size ∧ k ≠ wb ∧ k ≠ q) v1 (fun k hk => by have I := Z.out; omega) ⟨_, _, _, c.out, A.out⟩ B.out hl); rintro R v2 ⟨rfl, y⟩; refine Or.inl ⟨_, rfl, ?_⟩; simp only [useC]; have d : Fr (fun _ => False) v1 v2 := Fr.of_below y; replace v := v.f0 d; replace c := c.b0 d; replace A := A.l0 d; replace s := s.r0 d; replace B := Aside0.mk (B.out.fr d (fun _ _ h => h)); replace m := m.n0 d; replace e := e.b0 d; replace Z := Z.k d; clear d y; clear i j; have i := c.c2; have j := e.c6)
   | ((with_reducible refine gate_dst (N := 8) rfl ?_); apply boxE 8 #[.int .i64 0, .string ⟨#[]⟩, .int .i64 0, .int .i64 0, .int .i64 0, .bool false] 29; intro l v3 b d J; replace v := v.f0 d; replace c := c.b0 d; replace A := A.l0 d; replace s := s.r0 d; replace B := Aside0.mk (B.out.fr d (fun _ _ h => h)); replace m := m.n0 d; replace e := e.b0 d; replace Z := Z.a J; clear J d; clear i j; have i := c.c2; have j := e.c6; have p := b.e6; have M : l ≠ wb ∧ wb ≠ l ∧ l ≠ L ∧ L ≠ l := (by have I := Z.out; omega)))
  have D := b.s6 (.int .i64 (SP.find slots x.text fs).1.place) (.string (SP.find slots x.text fs).1.name) (.int .i64 (SP.find slots x.text fs).1.kind) (.int .i64 (SP.find slots x.text fs).1.depth) (.int .i64 (SP.find slots x.text fs).1.index) (.bool (SP.find slots x.text fs).1.write)
  clear b
  obtain ⟨v4, o, d, b⟩ := D
  rw [o]
  clear o
  have I := Z.out
  replace v := v.f1 d (by omega)
  replace c := c.b1 d (by omega)
  replace A := A.l1 d (fun k hk => by omega)
  replace s := s.r1 d (fun k hk => by omega)
  replace B := Aside0.mk (B.out.fr d (fun k hk => (show ¬ (k = l) from by have := U.out k hk; omega)))
  replace m := m.n1 d (fun k hk => by omega)
  replace e := e.b1 d (by omega)
  clear I
  replace Z := Z.k d
  clear d
  clear i j p M
  have i := c.c2
  have j := e.c6
  have p := b.e6
  have M : l ≠ wb ∧ wb ≠ l ∧ l ≠ L ∧ L ≠ l := (by have I := Z.out; omega)
  have D := b.st 0 (.int .i64 x.place) (cs' := #[.int .i64 x.place, .string (SP.find slots x.text fs).1.name, .int .i64 (SP.find slots x.text fs).1.kind, .int .i64 (SP.find slots x.text fs).1.depth, .int .i64 (SP.find slots x.text fs).1.index, .bool (SP.find slots x.text fs).1.write]) rfl
  clear b
  obtain ⟨V, o, d, b⟩ := D
  rw [o]
  clear o
  have I := Z.out
  replace v := v.f1 d (by omega)
  replace c := c.b1 d (by omega)
  replace A := A.l1 d (fun k hk => by omega)
  replace s := s.r1 d (fun k hk => by omega)
  replace B := Aside0.mk (B.out.fr d (fun k hk => (show ¬ (k = l) from by have := U.out k hk; omega)))
  replace m := m.n1 d (fun k hk => by omega)
  replace e := e.b1 d (by omega)
  clear I
  replace Z := Z.k d
  clear d
  clear i j p M
  have i := c.c2
  have j := e.c6
  have p := b.e6
  have M : l ≠ wb ∧ wb ≠ l ∧ l ≠ L ∧ L ≠ l := (by have I := Z.out; omega)
  refine start_ (n := 11) (S := fun w' => (w'.cell? ⟨wb, 1, none⟩ = some (.slice Al acc.length cl)) ∧ (w'.cell? ⟨l, 0, none⟩ = some (.int .i64 x.place)) ∧ (w'.cell? ⟨l, 1, none⟩ = some (.string (SP.find slots x.text fs).1.name)) ∧ (w'.cell? ⟨l, 2, none⟩ = some (.int .i64 (SP.find slots x.text fs).1.kind)) ∧ (w'.cell? ⟨l, 3, none⟩ = some (.int .i64 (SP.find slots x.text fs).1.depth)) ∧ (w'.cell? ⟨l, 4, none⟩ = some (.int .i64 (SP.find slots x.text fs).1.index)) ∧ (w'.cell? ⟨l, 5, none⟩ = some (.bool (SP.find slots x.text fs).1.write))) (ds := [10]) #[false, false, false, false, false, false, false, false, false, false, false] (by kernel_rfl) rfl rfl (show ((World.drew V).cell? ⟨wb, 1, none⟩ = some (.slice Al acc.length cl)) ∧ ((World.drew V).cell? ⟨l, 0, none⟩ = some (.int .i64 x.place)) ∧ ((World.drew V).cell? ⟨l, 1, none⟩ = some (.string (SP.find slots x.text fs).1.name)) ∧ ((World.drew V).cell? ⟨l, 2, none⟩ = some (.int .i64 (SP.find slots x.text fs).1.kind)) ∧ ((World.drew V).cell? ⟨l, 3, none⟩ = some (.int .i64 (SP.find slots x.text fs).1.depth)) ∧ ((World.drew V).cell? ⟨l, 4, none⟩ = some (.int .i64 (SP.find slots x.text fs).1.index)) ∧ ((World.drew V).cell? ⟨l, 5, none⟩ = some (.bool (SP.find slots x.text fs).1.write)) from ⟨(blk_cell c.out 1).trans rfl, (blk_cell b.out 0).trans rfl, (blk_cell b.out 1).trans rfl, (blk_cell b.out 2).trans rfl, (blk_cell b.out 3).trans rfl, (blk_cell b.out 4).trans rfl, (blk_cell b.out 5).trans rfl⟩) (fun r => ?_)
  obtain ⟨v6, o⟩ : ∃ W_, W_ = World.drew V := ⟨_, rfl⟩
  rw [← o] at r ⊢
  have d : Fr (fun _ => False) V v6 := (by rw [o]; exact (Fr.refl _ _).drew)
  replace v := v.f0 d
  replace c := c.b0 d
  replace A := A.l0 d
  replace s := s.r0 d
  replace B := Aside0.mk (B.out.fr d (fun _ _ h => h))
  replace m := m.n0 d
  replace e := e.b0 d
  replace b := b.b0 d
  replace Z := Z.k d
  clear d o
  clear i j p M
  apply puA 0 45
  apply puA 1 46
  apply puA 2 47
  apply puA 3 48
  apply tkA 4 49 r
  apply tkA 5 50 r
  apply oN 6 (some 51); intro K hK
  refine newR_ (cs := #[.int .i64 x.place, .string (SP.find slots x.text fs).1.name, .int .i64 (SP.find slots x.text fs).1.kind, .int .i64 (SP.find slots x.text fs).1.depth, .int .i64 (SP.find slots x.text fs).1.index, .bool (SP.find slots x.text fs).1.write]) (t := 29) (by rfl) rfl ?hr ?_
  (case hr => first | (go_simp; done) | (go_simp; rfl))
  intro bS E Y G y
  have d : Fr (fun _ => False) v6 Y := Fr.of_below y
  replace v := v.f0 d
  replace c := c.b0 d
  replace A := A.l0 d
  replace s := s.r0 d
  replace B := Aside0.mk (B.out.fr d (fun _ _ h => h))
  replace m := m.n0 d
  replace e := e.b0 d
  replace b := b.b0 d
  replace Z := Z.k d
  replace Z := Aside0.mk (And.intro (Nat.le_of_eq E.symm) Z.out)
  replace Z := Aside0.mk (And.intro (Nat.le_of_eq E) Z.out)
  replace Z := Aside0.mk (And.intro (blk_lt G) Z.out)
  have X := Aside0.mk G
  clear E G y d
  refine hK.out _ _ (show (Y.cell? ⟨wb, 1, none⟩ = some (.slice Al acc.length cl)) ∧ (Y.cell? ⟨l, 0, none⟩ = some (.int .i64 x.place)) ∧ (Y.cell? ⟨l, 1, none⟩ = some (.string (SP.find slots x.text fs).1.name)) ∧ (Y.cell? ⟨l, 2, none⟩ = some (.int .i64 (SP.find slots x.text fs).1.kind)) ∧ (Y.cell? ⟨l, 3, none⟩ = some (.int .i64 (SP.find slots x.text fs).1.depth)) ∧ (Y.cell? ⟨l, 4, none⟩ = some (.int .i64 (SP.find slots x.text fs).1.index)) ∧ (Y.cell? ⟨l, 5, none⟩ = some (.bool (SP.find slots x.text fs).1.write)) from ⟨(blk_cell c.out 1).trans rfl, (blk_cell b.out 0).trans rfl, (blk_cell b.out 1).trans rfl, (blk_cell b.out 2).trans rfl, (blk_cell b.out 3).trans rfl, (blk_cell b.out 4).trans rfl, (blk_cell b.out 5).trans rfl⟩) (fun r => ?_)
  clear hK K
  apply nmA 51
  apply oN 7 (some 52); intro K hK
  obtain ⟨AP, P, H, a0, O, C, d, Q⟩ := use_push (u := { (SP.find slots x.text fs).1 with place := x.place }) (W := Y) 23 w.heap.size HM.out (R_mono' (T := fun k => (k = q ∨ w.heap.size ≤ k)) s.out (fun k a1 _ => .inl a1)) (fun k hk => (show (k = q ∨ w.heap.size ≤ k) from by have I := Z.out; omega)) (show (bS = q ∨ w.heap.size ≤ bS) from by have I := Z.out; omega) X.out (ha)
  refine appendR_ (.tmp 49) (.tmp 51) (by rfl) rfl rfl rfl rfl O ?_
  replace Z := Aside0.mk (And.intro (Q) Z.out)
  clear Q O X s HM
  have I := Z.out
  replace v := v.f1 d (by omega)
  replace c := c.b1 d (by omega)
  replace A := A.l1 d (fun k hk => by omega)
  replace B := Aside0.mk (B.out.fr d (fun k hk => (show ¬ (k = a0) from by have := U.out k hk; omega)))
  replace m := m.n1 d (fun k hk => by omega)
  replace e := e.b1 d (by omega)
  replace b := b.b1 d (by omega)
  clear I
  replace Z := Z.k d
  clear d
  have s := Aside0.mk C
  clear C
  refine hK.out _ _ (show (H.cell? ⟨wb, 1, none⟩ = some (.slice Al acc.length cl)) ∧ (H.cell? ⟨l, 0, none⟩ = some (.int .i64 x.place)) ∧ (H.cell? ⟨l, 1, none⟩ = some (.string (SP.find slots x.text fs).1.name)) ∧ (H.cell? ⟨l, 2, none⟩ = some (.int .i64 (SP.find slots x.text fs).1.kind)) ∧ (H.cell? ⟨l, 3, none⟩ = some (.int .i64 (SP.find slots x.text fs).1.depth)) ∧ (H.cell? ⟨l, 4, none⟩ = some (.int .i64 (SP.find slots x.text fs).1.index)) ∧ (H.cell? ⟨l, 5, none⟩ = some (.bool (SP.find slots x.text fs).1.write)) from ⟨(blk_cell c.out 1).trans rfl, (blk_cell b.out 0).trans rfl, (blk_cell b.out 1).trans rfl, (blk_cell b.out 2).trans rfl, (blk_cell b.out 3).trans rfl, (blk_cell b.out 4).trans rfl, (blk_cell b.out 5).trans rfl⟩) (fun r => ?_)
  clear hK K
  apply nmA 52
  apply puA 8 53
  apply puA 9 54
  apply la 10 none; intro K hK
  have a2 := c.z
  have hc_ := c.c2
  have D := c.st 1 (.slice AP (acc.length + 1) P) (cs' := #[.slice As slots.length cs, .slice AP (acc.length + 1) P]) rfl
  clear c
  obtain ⟨v9, o, d, c⟩ := D
  refine skip_ (w1 := v9) (by rfl) rfl ?_ ?_
  ·rw [← o]
   clear o
   go_simp
   (try rfl)
  have I := Z.out
  replace v := v.f1 d (by omega)
  replace A := A.l1 d (fun k hk => by omega)
  replace B := Aside0.mk (B.out.fr d (fun k hk => (show ¬ (k = wb) from by have := U.out k hk; omega)))
  replace m := m.n1 d (fun k hk => by omega)
  replace e := e.b1 d (by omega)
  replace b := b.b1 d (by omega)
  replace s := s.r1 d (fun k hk => by omega)
  clear I
  replace Z := Z.k d
  clear a2 hc_ o d
  refine hK.out _ _ ?_
  clear hK K
  refine done_ (by kernel_rfl) ?_
  (try go_wp2)
  refine bodyPost_ret (results_none rfl _ _ _) rfl ?_
  have I := Z.out
  obtain ⟨q', D, hl_, hu_⟩ := use_own s.out q ⟨.inl rfl, by omega⟩
  have hs2_ : q' = q ∨ w.heap.size ≤ q' := D
  have R : (acc ++ [{ (SP.find slots x.text fs).1 with place := x.place }]).length = acc.length + 1 := by simp
  exact ⟨rfl, ⟨q', D, by omega, hl_, _, _, by rw [R]; exact c.out, by rw [R]; exact hu_⟩, v.out⟩)
theorem scope_part.varGood {x : SP.Nd} {slots : List ByteArray} {fs : List SP.Fr} {acc : List SP.Use} {wb q : Nat} {fv : Value} {rcv : Bool} {An Ak As : Option Addr} {cn ck cs : Nat} (w : World) (hq : q < w.heap.size) (hqw : q ≠ wb) (hw : WSt (fun k => k < w.heap.size ∧ k ≠ wb ∧ k ≠ q) q w wb As cs slots acc) (hx : NQ (fun k => k < w.heap.size ∧ k ≠ wb ∧ k ≠ q) w x (.slice An x.names.length cn) (.slice Ak x.kids.length ck)) (hfs : Frs (fun k => k < w.heap.size ∧ k ≠ wb ∧ k ≠ q) w fv fs) (hl : fs.length ≤ 1073741824) (ha : acc.length < 1099511627776) (hk : (x.kind == 5) = true) (hb : ((SP.find slots x.text fs).1.kind == -1) = false) (hb1 : ((SP.find slots x.text fs).1.kind == 1) = false) : Calls Try.prog 27 #[.pointer (some ⟨wb, 0, none⟩), .agg #[.int .i64 x.kind, .string x.text, .int .i64 x.place, .int .i64 x.n, .slice An x.names.length cn, .slice Ak x.kids.length ck], fv, .bool rcv] w (PartA q wb As cs slots.length (.ok (acc ++ [{ (SP.find slots x.text fs).1 with place := x.place }])) w) := scope_part.var w hq hqw hw hx hfs hl ha hk hb (Or.inl hb1)
theorem scope_part.varSelf {x : SP.Nd} {slots : List ByteArray} {fs : List SP.Fr} {acc : List SP.Use} {wb q : Nat} {fv : Value} {rcv : Bool} {An Ak As : Option Addr} {cn ck cs : Nat} (w : World) (hq : q < w.heap.size) (hqw : q ≠ wb) (hw : WSt (fun k => k < w.heap.size ∧ k ≠ wb ∧ k ≠ q) q w wb As cs slots acc) (hx : NQ (fun k => k < w.heap.size ∧ k ≠ wb ∧ k ≠ q) w x (.slice An x.names.length cn) (.slice Ak x.kids.length ck)) (hfs : Frs (fun k => k < w.heap.size ∧ k ≠ wb ∧ k ≠ q) w fv fs) (hl : fs.length ≤ 1073741824) (ha : acc.length < 1099511627776) (hk : (x.kind == 5) = true) (hb : ((SP.find slots x.text fs).1.kind == -1) = false) (hb1 : ((SP.find slots x.text fs).1.kind == 1) = true) (hr : rcv = true) : Calls Try.prog 27 #[.pointer (some ⟨wb, 0, none⟩), .agg #[.int .i64 x.kind, .string x.text, .int .i64 x.place, .int .i64 x.n, .slice An x.names.length cn, .slice Ak x.kids.length ck], fv, .bool rcv] w (PartA q wb As cs slots.length (.ok (acc ++ [{ (SP.find slots x.text fs).1 with place := x.place }])) w) := scope_part.var w hq hqw hw hx hfs hl ha hk hb (Or.inr (⟨hb1, hr⟩))
end Go.Proofs.Ytpodpmjlkbbkoaa.P
set_option maxHeartbeats 16000000
set_option maxRecDepth 100000
namespace Go.Proofs.Ytpodpmjlkbbkoaa.P
open Go.RowKit Go.Proofs.YtpodpmjlkbbkoaaW.PrintWords Go.Proofs.YtpodpmjlkbbkoaaW.PrintLast Go.Proofs.YtpodpmjlkbbkoaaW.PrintMore
theorem scope_part.setNo {x : SP.Nd} {slots : List ByteArray} {fs : List SP.Fr} {acc : List SP.Use} {wb q : Nat} {fv : Value} {rcv : Bool} {An Ak As : Option Addr} {cn ck cs : Nat} (w : World) (hq : q < w.heap.size) (hqw : q ≠ wb) (hw : WSt (fun k => k < w.heap.size ∧ k ≠ wb ∧ k ≠ q) q w wb As cs slots acc) (hx : NQ (fun k => k < w.heap.size ∧ k ≠ wb ∧ k ≠ q) w x (.slice An x.names.length cn) (.slice Ak x.kids.length ck)) (hfs : Frs (fun k => k < w.heap.size ∧ k ≠ wb ∧ k ≠ q) w fv fs) (hl : fs.length ≤ 1073741824) (ha : acc.length < 1099511627776) (h5 : (x.kind == 5) = false) (hk : (x.kind == 6) = true) (hc_ : ((SP.find slots x.text fs).2 = true) ∨ ((SP.find slots x.text fs).2 = false ∧ ((SP.find slots x.text fs).1.kind != 3) = true ∧ ((SP.find slots x.text fs).1.kind != 4) = true)) : Calls Try.prog 27 #[.pointer (some ⟨wb, 0, none⟩), .agg #[.int .i64 x.kind, .string x.text, .int .i64 x.place, .int .i64 x.n, .slice An x.names.length cn, .slice Ak x.kids.length ck], fv, .bool rcv] w (PartA q wb As cs slots.length (.error x.place) w) := by
 rcases hc_ with hb | ⟨hb, h3, h4⟩
 all_goals (
  have hu29 := Try.underlying29
  have hu36 := Try.underlying36
  have s := Aside0.mk (Fr.refl (fun k => k = wb ∨ k = q) w)
  obtain ⟨Al, cl, p, hqs_, hqu_⟩ := hw
  have b := Aside0.mk p
  have t := Aside0.mk hqs_
  have v := Aside0.mk hqu_
  have u := Aside0.mk hfs
  have m := Aside0.mk hx
  have Z := Aside0.mk (And.intro hq (And.intro hqw (And.intro (blk_lt p) (Nat.le_refl w.heap.size))))
  have D := Aside0.mk (show ∀ k, (k < w.heap.size ∧ k ≠ wb ∧ k ≠ q) → (k < w.heap.size ∧ k ≠ wb ∧ k ≠ q) from fun _ h => h)
  clear p hqs_ hqu_ hfs hx hq hqw
  go_enter Try.func27, Try.ntmps27
  go_wp2_with (first
   | ((with_reducible refine gate_dst (N := 5) rfl ?_); apply boxE 5 #[.int .i64 x.kind, .string x.text, .int .i64 x.place, .int .i64 x.n, .slice An x.names.length cn, .slice Ak x.kids.length ck] 36; intro A I d c r; replace s := s.f0 c; replace b := b.b0 c; replace t := t.l0 c; replace v := v.r0 c; replace u := Aside0.mk (u.out.fr c (fun _ _ h => h)); replace m := m.n0 c; replace Z := Z.a r; clear r c; have e := b.c2; have i := d.c6)
   | ((with_reducible refine gate_dst (N := 62) rfl ?_); apply goE 62 Try.func36 (scope_find.calls (F := fun k => k < w.heap.size ∧ k ≠ wb ∧ k ≠ q) I (fun k hk => by have B := Z.out; omega) ⟨_, _, _, b.out, t.out⟩ u.out hl); rintro M J ⟨rfl, p⟩; refine Or.inl ⟨_, rfl, ?_⟩; simp only [useC]; have c : Fr (fun _ => False) I J := Fr.of_below p; replace s := s.f0 c; replace b := b.b0 c; replace t := t.l0 c; replace v := v.r0 c; replace u := Aside0.mk (u.out.fr c (fun _ _ h => h)); replace m := m.n0 c; replace d := d.b0 c; replace Z := Z.k c; clear c p; clear e i; have e := b.c2; have i := d.c6)
   | ((with_reducible refine gate_dst (N := 10) rfl ?_); apply boxE 10 #[.int .i64 0, .string ⟨#[]⟩, .int .i64 0, .int .i64 0, .int .i64 0, .bool false] 29; intro l O j c r; replace s := s.f0 c; replace b := b.b0 c; replace t := t.l0 c; replace v := v.r0 c; replace u := Aside0.mk (u.out.fr c (fun _ _ h => h)); replace m := m.n0 c; replace d := d.b0 c; replace Z := Z.a r; clear r c; clear e i; have e := b.c2; have i := d.c6; have o := j.e6; have y : l ≠ wb ∧ wb ≠ l ∧ l ≠ A ∧ A ≠ l := (by have B := Z.out; omega)))
  have G := j.s6 (.int .i64 (SP.find slots x.text fs).1.place) (.string (SP.find slots x.text fs).1.name) (.int .i64 (SP.find slots x.text fs).1.kind) (.int .i64 (SP.find slots x.text fs).1.depth) (.int .i64 (SP.find slots x.text fs).1.index) (.bool (SP.find slots x.text fs).1.write)
  clear j
  obtain ⟨U, z, c, j⟩ := G
  rw [z]
  clear z
  have B := Z.out
  replace s := s.f1 c (by omega)
  replace b := b.b1 c (by omega)
  replace t := t.l1 c (fun k hk => by omega)
  replace v := v.r1 c (fun k hk => by omega)
  replace u := Aside0.mk (u.out.fr c (fun k hk => (show ¬ (k = l) from by have := D.out k hk; omega)))
  replace m := m.n1 c (fun k hk => by omega)
  replace d := d.b1 c (by omega)
  clear B
  replace Z := Z.k c
  clear c
  clear e i o y
  have e := b.c2
  have i := d.c6
  have o := j.e6
  have y : l ≠ wb ∧ wb ≠ l ∧ l ≠ A ∧ A ≠ l := (by have B := Z.out; omega)
  exact ⟨rfl, rfl, s.out⟩)
theorem scope_part.setArg {x : SP.Nd} {slots : List ByteArray} {fs : List SP.Fr} {acc : List SP.Use} {wb q : Nat} {fv : Value} {rcv : Bool} {An Ak As : Option Addr} {cn ck cs : Nat} (w : World) (hq : q < w.heap.size) (hqw : q ≠ wb) (hw : WSt (fun k => k < w.heap.size ∧ k ≠ wb ∧ k ≠ q) q w wb As cs slots acc) (hx : NQ (fun k => k < w.heap.size ∧ k ≠ wb ∧ k ≠ q) w x (.slice An x.names.length cn) (.slice Ak x.kids.length ck)) (hfs : Frs (fun k => k < w.heap.size ∧ k ≠ wb ∧ k ≠ q) w fv fs) (hl : fs.length ≤ 1073741824) (ha : acc.length < 1099511627776) (h5 : (x.kind == 5) = false) (hk : (x.kind == 6) = true) (hb : (SP.find slots x.text fs).2 = true) : Calls Try.prog 27 #[.pointer (some ⟨wb, 0, none⟩), .agg #[.int .i64 x.kind, .string x.text, .int .i64 x.place, .int .i64 x.n, .slice An x.names.length cn, .slice Ak x.kids.length ck], fv, .bool rcv] w (PartA q wb As cs slots.length (.error x.place) w) := scope_part.setNo w hq hqw hw hx hfs hl ha h5 hk (Or.inl hb)
theorem scope_part.setBad {x : SP.Nd} {slots : List ByteArray} {fs : List SP.Fr} {acc : List SP.Use} {wb q : Nat} {fv : Value} {rcv : Bool} {An Ak As : Option Addr} {cn ck cs : Nat} (w : World) (hq : q < w.heap.size) (hqw : q ≠ wb) (hw : WSt (fun k => k < w.heap.size ∧ k ≠ wb ∧ k ≠ q) q w wb As cs slots acc) (hx : NQ (fun k => k < w.heap.size ∧ k ≠ wb ∧ k ≠ q) w x (.slice An x.names.length cn) (.slice Ak x.kids.length ck)) (hfs : Frs (fun k => k < w.heap.size ∧ k ≠ wb ∧ k ≠ q) w fv fs) (hl : fs.length ≤ 1073741824) (ha : acc.length < 1099511627776) (h5 : (x.kind == 5) = false) (hk : (x.kind == 6) = true) (hb : (SP.find slots x.text fs).2 = false) (h3 : ((SP.find slots x.text fs).1.kind != 3) = true) (h4 : ((SP.find slots x.text fs).1.kind != 4) = true) : Calls Try.prog 27 #[.pointer (some ⟨wb, 0, none⟩), .agg #[.int .i64 x.kind, .string x.text, .int .i64 x.place, .int .i64 x.n, .slice An x.names.length cn, .slice Ak x.kids.length ck], fv, .bool rcv] w (PartA q wb As cs slots.length (.error x.place) w) := scope_part.setNo w hq hqw hw hx hfs hl ha h5 hk (Or.inr (⟨hb, h3, h4⟩))
def UnitC (x : SP.Nd) (f : List SP.Fr → List SP.Use → SP.W) (slots : List ByteArray) (m n : Nat) : Prop := ∀ (fs : List SP.Fr) (acc : List SP.Use) (wb q : Nat) (fv : Value) (An Ak As : Option Addr) (cn ck cs : Nat) (w : World), q < w.heap.size → q ≠ wb → WSt (fun k => k < w.heap.size ∧ k ≠ wb ∧ k ≠ q) q w wb As cs slots acc → NQ (fun k => k < w.heap.size ∧ k ≠ wb ∧ k ≠ q) w x (.slice An x.names.length cn) (.slice Ak x.kids.length ck) → Frs (fun k => k < w.heap.size ∧ k ≠ wb ∧ k ≠ q) w fv fs → fs.length + m ≤ 1073741824 → acc.length + n ≤ 1073741824 →
  Calls Try.prog 17 #[.pointer (some ⟨wb, 0, none⟩), .agg #[.int .i64 x.kind, .string x.text, .int .i64 x.place, .int .i64 x.n, .slice An x.names.length cn, .slice Ak x.kids.length ck], fv] w (PartA q wb As cs slots.length (f fs acc) w)
theorem scope_part.block {f : List SP.Fr → List SP.Use → SP.W} {m n : Nat} {x : SP.Nd} {slots : List ByteArray} {fs : List SP.Fr} {acc : List SP.Use} {wb q : Nat} {fv : Value} {rcv : Bool} {An Ak As : Option Addr} {cn ck cs : Nat} (w : World) (hq : q < w.heap.size) (hqw : q ≠ wb) (hw : WSt (fun k => k < w.heap.size ∧ k ≠ wb ∧ k ≠ q) q w wb As cs slots acc) (hx : NQ (fun k => k < w.heap.size ∧ k ≠ wb ∧ k ≠ q) w x (.slice An x.names.length cn) (.slice Ak x.kids.length ck)) (hfs : Frs (fun k => k < w.heap.size ∧ k ≠ wb ∧ k ≠ q) w fv fs) (hl : fs.length ≤ 1073741824) (ha : acc.length < 1099511627776) (hu : UnitC x f slots m n) (hl1 : fs.length + m ≤ 1073741824) (ha1 : acc.length + n ≤ 1073741824) (h5 : (x.kind == 5) = false) (h6 : (x.kind == 6) = false) (hk : (x.kind == 10) = true) : Calls Try.prog 27 #[.pointer (some ⟨wb, 0, none⟩), .agg #[.int .i64 x.kind, .string x.text, .int .i64 x.place, .int .i64 x.n, .slice An x.names.length cn, .slice Ak x.kids.length ck], fv, .bool rcv] w (PartA q wb As cs slots.length (f fs acc) w) := by
 have hu29 := Try.underlying29
 have hu36 := Try.underlying36
 have t := Aside0.mk (Fr.refl (fun k => k = wb ∨ k = q) w)
 obtain ⟨Al, cl, i, hqs_, hqu_⟩ := hw
 have b := Aside0.mk i
 have u := Aside0.mk hqs_
 have v := Aside0.mk hqu_
 have y := Aside0.mk hfs
 have j := Aside0.mk hx
 have Z := Aside0.mk (And.intro hq (And.intro hqw (And.intro (blk_lt i) (Nat.le_refl w.heap.size))))
 have B := Aside0.mk (show ∀ k, (k < w.heap.size ∧ k ≠ wb ∧ k ≠ q) → (k < w.heap.size ∧ k ≠ wb ∧ k ≠ q) from fun _ h => h)
 clear i hqs_ hqu_ hfs hx hq hqw
 go_enter Try.func27, Try.ntmps27
 go_wp2_with (first
  | ((with_reducible refine gate_dst (N := 5) rfl ?_); apply boxE 5 #[.int .i64 x.kind, .string x.text, .int .i64 x.place, .int .i64 x.n, .slice An x.names.length cn, .slice Ak x.kids.length ck] 36; intro D r o l p; replace t := t.f0 l; replace b := b.b0 l; replace u := u.l0 l; replace v := v.r0 l; replace y := Aside0.mk (y.out.fr l (fun _ _ h => h)); replace j := j.n0 l; replace Z := Z.a p; clear p l; have z := b.c2; have A := o.c6)
  | ((with_reducible refine gate_dst (N := 99) rfl ?_); apply goE 99 Try.func17 (hu fs acc wb q fv An Ak As cn ck cs r (by have s := Z.out; omega) (by have s := Z.out; omega) ⟨_, _, b.out, SL.mono u.out (fun k (hk : k < w.heap.size ∧ k ≠ wb ∧ k ≠ q) _ => (show k < r.heap.size ∧ k ≠ wb ∧ k ≠ q from by have s := Z.out; omega)), v.out⟩ (j.out.mono (fun k (hk : k < w.heap.size ∧ k ≠ wb ∧ k ≠ q) _ => (show k < r.heap.size ∧ k ≠ wb ∧ k ≠ q from by have s := Z.out; omega))) (y.out.mono (fun k (hk : k < w.heap.size ∧ k ≠ wb ∧ k ≠ q) _ => (show k < r.heap.size ∧ k ≠ wb ∧ k ≠ q from by have s := Z.out; omega))) hl1 ha1); rintro G I c; replace c := c.old t.out; rcases hr_ : f fs acc with p_ | acc2; (rw [hr_] at c; obtain ⟨rfl, d⟩ := c; exact Or.inr ⟨_, rfl, rfl, rfl, d⟩); rw [hr_] at c; obtain ⟨rfl, e, d⟩ := c; refine Or.inl ⟨_, rfl, ?_⟩; replace e := Aside0.mk e; replace d := Aside0.mk d))
 show bodyPost _ _ _ Exit.ret _ _
 refine bodyPost_ret (results_none rfl _ _ _) rfl ?_
 first
  | exact ⟨rfl, e.out, d.out⟩
  | (have h_ : PartA q wb As cs slots.length (.ok acc2) w (.returned (.tuple #[])) _ := ⟨rfl, e.out, d.out⟩; rw [← hr_] at h_; exact h_)
end Go.Proofs.Ytpodpmjlkbbkoaa.P
namespace Go.Proofs.Ytpodpmjlkbbkoaa.P
open Go.RowKit Go.Proofs.YtpodpmjlkbbkoaaW.PrintWords
theorem kid_at {w : World} {S : Nat → Prop} {A : Option Addr} {n c : Nat} {xs : List SP.Nd} (h : kNd.Q 36 w 0 S (.slice A n c) xs) (i : Nat) (x : SP.Nd) (hi : xs[i]? = some x) :
  ∃ ad An cn Ak ck, A = some ad ∧ NQ S w x (.slice An x.names.length cn) (.slice Ak x.kids.length ck) ∧ ∀ j u, [.int .i64 x.kind, .string x.text, .int .i64 x.place, .int .i64 x.n, .slice An x.names.length cn, .slice Ak x.kids.length ck][j]? = some u → w.cell? (ad.add (i * 6 + j)) = some u := by
 obtain ⟨h0, inner, ho, hr⟩ := h
 have hlt := (List.getElem?_eq_some_iff.1 hi).1
 obtain ⟨A', c', he, hl⟩ := q_slice ho
 injection he with e1 e2 e3
 subst e1; subst e2; subst e3
 obtain ⟨ad, ha, hc⟩ := q_cells ho (by omega)
 have hm := kNd_M.1 (hr.2 i x hi)
 obtain ⟨nv, kv, hcs, h1, h2⟩ := hm
 obtain ⟨An, cn, rfl, _⟩ := Kd.Q_slice h1
 obtain ⟨Ak, ck, rfl, _⟩ := Kd.Q_slice h2
 refine ⟨ad, An, cn, Ak, ck, ha, ⟨Q_mono' h1 (fun k hk _ => hk.1), Q_mono' h2 (fun k hk _ => hk.1)⟩, fun j u hu => ?_⟩
 rw [← hcs] at hu
 refine hc _ u ?_
 have hz : kNd.sz = 6 := rfl
 rw [hz, List.getElem?_take] at hu
 split at hu
 ·rw [List.getElem?_drop] at hu
  exact hu
 ·cases hu
end Go.Proofs.Ytpodpmjlkbbkoaa.P
