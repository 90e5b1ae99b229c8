import Derived.Test.YtpodpmjlkbbkoaaQCTP
import Derived.Test.YtpodpmjlkbbkoaaQCTA
set_option linter.all false
set_option maxHeartbeats 16000000
set_option maxRecDepth 100000
namespace Go.Proofs.Ytpodpmjlkbbkoaa.P
open Go.RowKit Go.Proofs.YtpodpmjlkbbkoaaW.PrintWords Go.Proofs.YtpodpmjlkbbkoaaW.PrintLast Go.Proofs.YtpodpmjlkbbkoaaW.PrintMore
variable [Low]
attribute [local go_sem] field64_1 field64_2
theorem tree_expr1.calls {k : Nat} (ihx : CN 48 SP.expr k) {B pb g1 g4 : Nat} {l : List S28} {d : Int} {r : Except (Int × Int) (SP.Nd × List S28)} {r1 : Except (Int × Int) (SP.Nd × List S28)} (w : World) (a b c : Value) (h : PS B w pb l d)
  (h1 : w.heap[g1]? = some (.cells #[.pointer (some ⟨pb, 0, none⟩)] 45 (0, 0))) (h4 : w.heap[g4]? = some (.cells #[a, b, c, .int .i64 0, .slice none 0 0, .slice none 0 0] 36 (0, 0))) (hg1 : B ≤ g1) (hg4 : B ≤ g4) (h14 : g1 ≠ g4)
  (hx : SP.expr k d l = some r1) (H : Aside0 (some r1 = some r)) :
  Calls Try.prog 63 #[.pointer (some ⟨g1, 0, none⟩), .pointer (some ⟨g4, 0, none⟩)] w (AnsC r B pb d (fun k => k = pb ∨ k = g4) w (fun x w' => Kids g4 (fun k => w.heap.size ≤ k ∧ k ≠ g4) a b c (.int .i64 0) (.slice none 0 0) [x] w')) := by
 have hu36 := Try.underlying36
 have v := Aside0.mk (Fr.refl (fun k => k = pb ∨ k = g4) w)
 have p := Aside0.mk h
 have Z := Aside0.mk (And.intro p.out.1 (And.intro p.out.2.1 (Nat.le_refl w.heap.size)))
 clear h
 have i := Aside0.mk h1
 have e := Aside0.mk h4
 replace Z := Aside0.mk (And.intro hg1 (And.intro hg4 (And.intro h14 (And.intro (blk_lt h1) (And.intro (blk_lt h4) Z.out)))))
 clear h1 h4 hg1 hg4 h14
 have j := i.c1
 have m := e.e6
 have s : g4 ≠ g1 ∧ g1 ≠ g4 := (by have y := Z.out; omega)
 go_enter Try.func63, Try.ntmps63
 go_wp2_with (first
  | ((with_reducible refine gate_dst (N := 3) rfl ?_); (try (refine gate_guard (by rfl) ?_; dsimp only)); apply goE 3 Try.func48 (ihx _ _ _ _ _ _ hx p.out); rintro U O D; rcases r1 with x_ | ⟨x, l2⟩; (obtain ⟨rfl, o⟩ := D; obtain rfl : r = Except.error x_ := (Option.some.inj H.out).symm; exact Or.inr ⟨_, rfl, rfl, rfl, v.out.then_ o (fun k hk => .inl (.inl hk))⟩); obtain ⟨v_, rfl, ⟨nva, kva, rfl, q⟩, z, o⟩ := D; refine Or.inl ⟨_, rfl, ?_⟩; obtain ⟨Ana, cna, rfl, _⟩ := Kd.Q_slice q.1; obtain ⟨Aka, cka, rfl, _⟩ := Kd.Q_slice q.2; replace p := Aside0.mk z; have y := Z.out; replace v := v.f1 o (by omega); replace i := i.b1 o (by omega); replace e := e.b1 o (by omega); clear y; replace Z := Z.k o; have u := Aside0.mk (q.mono (T := fun k => (w.heap.size ≤ k ∧ k < O.heap.size)) (fun k h1 h2 => ⟨h1, h2⟩)); clear z q o; clear j m s; have j := i.c1; have m := e.e6; have s : g4 ≠ g1 ∧ g1 ≠ g4 := (by have y := Z.out; omega); obtain rfl : r = Except.ok (x, l2) := (Option.some.inj H.out).symm)
  | ((with_reducible refine gate_dst (N := 4) rfl ?_); apply litE 4 #[.int .i64 x.kind, .string x.text, .int .i64 x.place, .int .i64 x.n, .slice Ana x.names.length cna, .slice Aka x.kids.length cka] 36 1; intro bL V t o G; replace v := v.f0 o; replace p := p.p0 o; replace i := i.b0 o; replace e := e.b0 o; replace u := u.n0 o; replace Z := Z.a G; clear G o; clear j m s; have j := i.c1; have m := e.e6; have A := t.c6; have s : g4 ≠ g1 ∧ g1 ≠ g4 ∧ g4 ≠ bL ∧ bL ≠ g4 := (by have y := Z.out; omega); have J := Aside0.mk (row_one (S := fun k => (w.heap.size ≤ k ∧ k ≠ g4)) t.out u.out (fun k (hk : (w.heap.size ≤ k ∧ k < O.heap.size)) => (show ((w.heap.size ≤ k ∧ k ≠ g4)) ∧ k ≠ bL from by have y := Z.out; omega)) (show (w.heap.size ≤ bL ∧ bL ≠ g4) from by have y := Z.out; omega)); clear t u; clear A))
 have M := e.st 5 (.slice (some ⟨bL, 0, none⟩) 1 1) (cs' := #[a, b, c, .int .i64 0, .slice none 0 0, .slice (some ⟨bL, 0, none⟩) 1 1]) rfl
 clear e
 obtain ⟨W, I, o, e⟩ := M
 rw [I]
 clear I
 have y := Z.out
 replace v := v.f1 o (by omega)
 replace p := p.p1 o (by omega)
 replace i := i.b1 o (by omega)
 replace J := J.q1 o (fun k hk => by omega)
 clear y
 replace Z := Z.k o
 clear o
 clear j m s
 have j := i.c1
 have m := e.c6
 refine bodyPost_end (results_none rfl _ _ _) rfl ?_
 exact ⟨rfl, ⟨_, _, e.out, J.out⟩, p.out, v.out⟩
theorem tree_expression.other {k : Nat} (ihc : CN 64 SP.casc k) {B pb : Nat} {t : S28} {l1 : List S28} {d : Int} {r : Except (Int × Int) (SP.Nd × List S28)} (w : World) (h : PS B w pb (t :: l1) d) (c1 : (t.f0 == 1) = false) (hx : SP.casc k d (t :: l1) = some r) :
  Calls Try.prog 48 #[.pointer (some ⟨pb, 0, none⟩)] w (Ans r B pb d w (fun x v w' => NV (fun q => w.heap.size ≤ q) w' x v)) := by
 have hu36 := Try.underlying36
 have hu64 := Try.underlying64
 have y := Aside0.mk (Fr.refl (fun k => k = pb) w)
 have j := Aside0.mk h
 have Z := Aside0.mk (And.intro j.out.1 (And.intro j.out.2.1 (Nat.le_refl w.heap.size)))
 clear h
 go_enter Try.func48, Try.ntmps48
 go_wp2_with (first
  | ((with_reducible refine gate_dst (N := 1) rfl ?_); apply boxE 1 #[.pointer (some ⟨pb, 0, none⟩)] 45; intro z L c l s; replace y := y.f0 l; replace j := j.p0 l; replace Z := Z.a s; clear s l; have b := c.c1)
  | ((with_reducible refine gate_dst (N := 2) rfl ?_); apply boxE 2 #[.int .i64 0, .string ⟨#[]⟩, .int .i64 0, .int .i64 0, .slice none 0 0, .slice none 0 0] 36; intro p F e l s; replace y := y.f0 l; replace j := j.p0 l; replace c := c.b0 l; replace Z := Z.a s; clear s l; clear b; have b := c.c1; have i := e.e6; have m : p ≠ z ∧ z ≠ p := (by have A := Z.out; omega); clear b i m; have b := c.c1; have i := e.e6; have m : p ≠ z ∧ z ≠ p := (by have A := Z.out; omega); obtain ⟨H, P, D⟩ := j.out.blk_; have u := Aside0.mk D; clear D; clear b i m; have b := c.c1; have i := e.e6; have I := u.c2; have m : p ≠ z ∧ z ≠ p ∧ p ≠ pb ∧ pb ≠ p := (by have A := Z.out; omega); obtain ⟨Y, X, M, O, U⟩ := j.out.cells_ u.out; have C : (0 : Int) < ((t :: l1).length : Int) := (by simp only [List.length_cons]; omega))
  | ((with_reducible refine gate_dst (N := 6) rfl ?_); (try (refine gate_guard (by rfl) ?_; dsimp only)); apply kindE 6 j)
  | ((with_reducible refine gate_dst (N := 30) rfl ?_); (try (refine gate_guard (by rfl) ?_; dsimp only)); apply goE 30 Try.func64 (ihc _ _ _ _ _ _ hx j.out); rintro Q K V; rcases r with x_ | ⟨x, lz⟩; (obtain ⟨rfl, l⟩ := V; exact Or.inr ⟨_, rfl, rfl, rfl, y.out.then_ l (fun k hk => .inl hk)⟩); obtain ⟨v_, rfl, ⟨nva, kva, rfl, o⟩, G, l⟩ := V; refine Or.inl ⟨_, rfl, ?_⟩; obtain ⟨Ana, cna, rfl, _⟩ := Kd.Q_slice o.1; obtain ⟨Aka, cka, rfl, _⟩ := Kd.Q_slice o.2; replace j := Aside0.mk G; clear u; have A := Z.out; replace y := y.f1 l (by omega); replace c := c.b1 l (by omega); replace e := e.b1 l (by omega); clear A; replace Z := Z.k l; have J := Aside0.mk (o.mono (T := fun k => (F.heap.size ≤ k ∧ k < K.heap.size)) (fun k h1 h2 => ⟨h1, h2⟩)); clear G o l; clear b i I m M O U C Y X; have b := c.c1; have i := e.e6; have m : p ≠ z ∧ z ≠ p := (by have A := Z.out; omega)))
 have E := e.s6 (.int .i64 x.kind) (.string x.text) (.int .i64 x.place) (.int .i64 x.n) (.slice Ana x.names.length cna) (.slice Aka x.kids.length cka)
 clear e
 obtain ⟨R, W, l, e⟩ := E
 rw [W]
 clear W
 have A := Z.out
 replace y := y.f1 l (by omega)
 replace j := j.p1 l (by omega)
 replace c := c.b1 l (by omega)
 replace J := J.n1 l (fun k hk => by omega)
 clear A
 replace Z := Z.k l
 clear l
 clear b i m
 have b := c.c1
 have i := e.e6
 have m : p ≠ z ∧ z ≠ p := (by have A := Z.out; omega)
 refine bodyPost_ret (results_c rfl _ _ p 36 _ (0, 0) _ rfl e.out hu36 rfl rfl) rfl ?_
 exact ⟨_, rfl, ⟨_, _, rfl, J.out.mono (fun k h1 h2 => (show w.heap.size ≤ k from by have A := Z.out; omega))⟩, j.out, y.out⟩
theorem tree_expression.name {k : Nat} (ihc : CN 64 SP.casc k) {B pb : Nat} {t : S28} {u : S28} {l2 : List S28} {d : Int} {r : Except (Int × Int) (SP.Nd × List S28)} (w : World) (h : PS B w pb (t :: u :: l2) d) (c1 : (t.f0 == 1) = true) (c7 : (u.f0 == 7) = false) (hx : SP.casc k d (t :: u :: l2) = some r) :
  Calls Try.prog 48 #[.pointer (some ⟨pb, 0, none⟩)] w (Ans r B pb d w (fun x v w' => NV (fun q => w.heap.size ≤ q) w' x v)) := by
 have hu36 := Try.underlying36
 have hu64 := Try.underlying64
 have z := Aside0.mk (Fr.refl (fun k => k = pb) w)
 have j := Aside0.mk h
 have Z := Aside0.mk (And.intro j.out.1 (And.intro j.out.2.1 (Nat.le_refl w.heap.size)))
 clear h
 go_enter Try.func48, Try.ntmps48
 go_wp2_with (first
  | ((with_reducible refine gate_dst (N := 1) rfl ?_); apply boxE 1 #[.pointer (some ⟨pb, 0, none⟩)] 45; intro A P c l y; replace z := z.f0 l; replace j := j.p0 l; replace Z := Z.a y; clear y l; have b := c.c1)
  | ((with_reducible refine gate_dst (N := 2) rfl ?_); apply boxE 2 #[.int .i64 0, .string ⟨#[]⟩, .int .i64 0, .int .i64 0, .slice none 0 0, .slice none 0 0] 36; intro s H e l y; replace z := z.f0 l; replace j := j.p0 l; replace c := c.b0 l; replace Z := Z.a y; clear y l; clear b; have b := c.c1; have i := e.e6; have m : s ≠ A ∧ A ≠ s := (by have D := Z.out; omega); clear b i m; have b := c.c1; have i := e.e6; have m : s ≠ A ∧ A ≠ s := (by have D := Z.out; omega); obtain ⟨K, Q, G⟩ := j.out.blk_; have o := Aside0.mk G; clear G; clear b i m; have b := c.c1; have i := e.e6; have J := o.c2; have m : s ≠ A ∧ A ≠ s ∧ s ≠ pb ∧ pb ≠ s := (by have D := Z.out; omega); obtain ⟨X, C, O, U, V⟩ := j.out.cells_ o.out; have E : (0 : Int) < ((t :: u :: l2).length : Int) := (by simp only [List.length_cons]; omega); have hk1_ := j.out.kind1 o.out; have hl1_ : (1 : Int) < ((t :: u :: l2).length : Int) := (by simp; omega))
  | ((with_reducible refine gate_dst (N := 6) rfl ?_); (try (refine gate_guard (by rfl) ?_; dsimp only)); apply kindE 6 j)
  | ((with_reducible refine gate_dst (N := 30) rfl ?_); (try (refine gate_guard (by rfl) ?_; dsimp only)); apply goE 30 Try.func64 (ihc _ _ _ _ _ _ hx j.out); rintro R L W; rcases r with x_ | ⟨x, lz⟩; (obtain ⟨rfl, l⟩ := W; exact Or.inr ⟨_, rfl, rfl, rfl, z.out.then_ l (fun k hk => .inl hk)⟩); obtain ⟨v_, rfl, ⟨nva, kva, rfl, p⟩, I, l⟩ := W; refine Or.inl ⟨_, rfl, ?_⟩; obtain ⟨Ana, cna, rfl, _⟩ := Kd.Q_slice p.1; obtain ⟨Aka, cka, rfl, _⟩ := Kd.Q_slice p.2; replace j := Aside0.mk I; clear o hk1_ hl1_; have D := Z.out; replace z := z.f1 l (by omega); replace c := c.b1 l (by omega); replace e := e.b1 l (by omega); clear D; replace Z := Z.k l; have M := Aside0.mk (p.mono (T := fun k => (H.heap.size ≤ k ∧ k < L.heap.size)) (fun k h1 h2 => ⟨h1, h2⟩)); clear I p l; clear b i J m O U V E X C; have b := c.c1; have i := e.e6; have m : s ≠ A ∧ A ≠ s := (by have D := Z.out; omega)))
 have F := e.s6 (.int .i64 x.kind) (.string x.text) (.int .i64 x.place) (.int .i64 x.n) (.slice Ana x.names.length cna) (.slice Aka x.kids.length cka)
 clear e
 obtain ⟨S, Y, l, e⟩ := F
 rw [Y]
 clear Y
 have D := Z.out
 replace z := z.f1 l (by omega)
 replace j := j.p1 l (by omega)
 replace c := c.b1 l (by omega)
 replace M := M.n1 l (fun k hk => by omega)
 clear D
 replace Z := Z.k l
 clear l
 clear b i m
 have b := c.c1
 have i := e.e6
 have m : s ≠ A ∧ A ≠ s := (by have D := Z.out; omega)
 refine bodyPost_ret (results_c rfl _ _ s 36 _ (0, 0) _ rfl e.out hu36 rfl rfl) rfl ?_
 exact ⟨_, rfl, ⟨_, _, rfl, M.out.mono (fun k h1 h2 => (show w.heap.size ≤ k from by have D := Z.out; omega))⟩, j.out, z.out⟩
theorem tree_expression.poor {B pb : Nat} {t : S28} {u : S28} {l2 : List S28} {d : Int} (w : World) (h : PS B w pb (t :: u :: l2) d) (c1 : (t.f0 == 1) = true) (c7 : (u.f0 == 7) = true) (htl : SP.tl (t :: u :: l2) = u :: l2) (hd : (d == 40) = true) :
  Calls Try.prog 48 #[.pointer (some ⟨pb, 0, none⟩)] w (Ans (.error (u.f2, 3)) B pb d w (fun x v w' => NV (fun q => w.heap.size ≤ q) w' x v)) := by
 have hu36 := Try.underlying36
 have hu64 := Try.underlying64
 have hmf : ∀ (fn : Fn) (first cap : Array Value) (w : World), (Instr.makeFunc fn first cap).run Try.prog w = .ok (.func fn first cap) w := fun _ _ _ _ => rfl
 have z := Aside0.mk (Fr.refl (fun k => k = pb) w)
 have l := Aside0.mk h
 have Z := Aside0.mk (And.intro l.out.1 (And.intro l.out.2.1 (Nat.le_refl w.heap.size)))
 clear h
 go_enter Try.func48, Try.ntmps48
 go_wp2_with (first
  | ((with_reducible refine gate_dst (N := 1) rfl ?_); apply boxE 1 #[.pointer (some ⟨pb, 0, none⟩)] 45; intro s L c j r; replace z := z.f0 j; replace l := l.p0 j; replace Z := Z.a r; clear r j; have b := c.c1)
  | ((with_reducible refine gate_dst (N := 2) rfl ?_); apply boxE 2 #[.int .i64 0, .string ⟨#[]⟩, .int .i64 0, .int .i64 0, .slice none 0 0, .slice none 0 0] 36; intro n P i j r; replace z := z.f0 j; replace l := l.p0 j; replace c := c.b0 j; replace Z := Z.a r; clear r j; clear b; have b := c.c1; have e := i.e6; have o : n ≠ s ∧ s ≠ n := (by have D := Z.out; omega); clear b e o; have b := c.c1; have e := i.e6; have o : n ≠ s ∧ s ≠ n := (by have D := Z.out; omega); obtain ⟨K, Q, O⟩ := l.out.blk_; have A := Aside0.mk O; clear O; clear b e o; have b := c.c1; have e := i.e6; have V := A.c2; have o : n ≠ s ∧ s ≠ n ∧ n ≠ pb ∧ pb ≠ n := (by have D := Z.out; omega); obtain ⟨E, F, Y, X, C⟩ := l.out.cells_ A.out; have H : (0 : Int) < ((t :: u :: l2).length : Int) := (by simp only [List.length_cons]; omega); have hk1_ := l.out.kind1 A.out; have hl1_ : (1 : Int) < ((t :: u :: l2).length : Int) := (by simp; omega))
  | ((with_reducible refine gate_dst (N := 6) rfl ?_); (try (refine gate_guard (by rfl) ?_; dsimp only)); apply kindE 6 l)
  | ((with_reducible refine gate_dst (N := 19) rfl ?_); apply takeE 19 l; intro R I j; rw [htl] at I; replace l := Aside0.mk I; clear I; clear A hk1_ hl1_; have D := Z.out; replace z := z.f1 j (by omega); replace c := c.b1 j (by omega); replace i := i.b1 j (by omega); clear D; replace Z := Z.k j; clear j; clear b e V o Y X C H E F; have b := c.c1; have e := i.e6; have o : n ≠ s ∧ s ≠ n := (by have D := Z.out; omega))
  | ((with_reducible refine gate_dst (N := 3) rfl ?_); apply boxE 3 #[.int .i64 0, .string ⟨#[]⟩, .int .i64 0] 64; intro G S m j r; replace z := z.f0 j; replace l := l.p0 j; replace c := c.b0 j; replace i := i.b0 j; replace Z := Z.a r; clear r j; clear b e o; have b := c.c1; have e := i.e6; have p := m.e3; have o : G ≠ s ∧ s ≠ G ∧ G ≠ n ∧ n ≠ G ∧ n ≠ s ∧ s ≠ n := (by have D := Z.out; omega))
  | ((with_reducible refine gate_dst (N := 4) rfl ?_); have W := m.s3 (.int .i64 t.f0) (.string t.f1) (.int .i64 t.f2); clear m; obtain ⟨T, J, j, m⟩ := W; rw [J]; clear J; have D := Z.out; replace z := z.f1 j (by omega); replace l := l.p1 j (by omega); replace c := c.b1 j (by omega); replace i := i.b1 j (by omega); clear D; replace Z := Z.k j; clear j; clear b e p o; have b := c.c1; have e := i.e6; have p := m.c3; have o : n ≠ s ∧ s ≠ n ∧ n ≠ G ∧ G ≠ n := (by have D := Z.out; omega); apply boxE 4 #[.int .i64 0, .string ⟨#[]⟩, .int .i64 0, .int .i64 0, .slice none 0 0, .slice none 0 0] 36; intro U v6 y j r; replace z := z.f0 j; replace l := l.p0 j; replace c := c.b0 j; replace i := i.b0 j; replace m := m.b0 j; replace Z := Z.a r; clear r j; clear b e p o; have b := c.c1; have e := i.e6; have p := m.c3; have M := y.e6; have o : U ≠ s ∧ s ≠ U ∧ U ≠ n ∧ n ≠ U ∧ U ≠ G ∧ G ≠ U ∧ n ≠ s ∧ s ≠ n ∧ n ≠ G ∧ G ≠ n := (by have D := Z.out; omega))
  | ((with_reducible refine gate_dst (N := 27) rfl ?_); (try (refine gate_guard (by rfl) ?_; dsimp only)); have W := y.s6 (.int .i64 6) (.string t.f1) (.int .i64 t.f2) (.int .i64 0) (.slice none 0 0) (.slice none 0 0); clear y; obtain ⟨v7, J, j, y⟩ := W; rw [J]; clear J; have D := Z.out; replace z := z.f1 j (by omega); replace l := l.p1 j (by omega); replace c := c.b1 j (by omega); replace i := i.b1 j (by omega); replace m := m.b1 j (by omega); clear D; replace Z := Z.k j; clear j; clear b e p M o; have b := c.c1; have e := i.e6; have p := m.c3; have M := y.c6; have o : n ≠ s ∧ s ≠ n ∧ n ≠ G ∧ G ≠ n ∧ n ≠ U ∧ U ≠ n := (by have D := Z.out; omega); apply goE 27 Try.func62 (tree_within.poor _ 63 _ _ l.out hd); rintro e_ w_ ⟨rfl, j⟩; exact Or.inr ⟨_, rfl, rfl, rfl, z.out.then_ j (fun k hk => .inl hk)⟩))
theorem tree_expression.good {k : Nat} (ihx : CN 48 SP.expr k) {r1 : Except (Int × Int) (SP.Nd × List S28)} {B pb : Nat} {t : S28} {u : S28} {l2 : List S28} {d : Int} {r : Except (Int × Int) (SP.Nd × List S28)} (w : World) (h : PS B w pb (t :: u :: l2) d) (c1 : (t.f0 == 1) = true) (c7 : (u.f0 == 7) = true) (htl : SP.tl (t :: u :: l2) = u :: l2) (hd : (d == 40) = false) (hx : SP.expr k (d + 1) (SP.tl (u :: l2)) = some r1) (H : Aside0 (SP.bind (some r1) (fun e l3 => SP.ret (SP.Nd.mk 6 t.f1 t.f2 0 [] [e]) l3) = some r)) :
  Calls Try.prog 48 #[.pointer (some ⟨pb, 0, none⟩)] w (Ans r B pb d w (fun x v w' => NV (fun q => w.heap.size ≤ q) w' x v)) := by
 have hu36 := Try.underlying36
 have hu64 := Try.underlying64
 have hmf : ∀ (fn : Fn) (first cap : Array Value) (w : World), (Instr.makeFunc fn first cap).run Try.prog w = .ok (.func fn first cap) w := fun _ _ _ _ => rfl
 have J := Aside0.mk (Fr.refl (fun k => k = pb) w)
 have n := Aside0.mk h
 have Z := Aside0.mk (And.intro n.out.1 (And.intro n.out.2.1 (Nat.le_refl w.heap.size)))
 clear h
 go_enter Try.func48, Try.ntmps48
 go_wp2_with (first
  | ((with_reducible refine gate_dst (N := 1) rfl ?_); apply boxE 1 #[.pointer (some ⟨pb, 0, none⟩)] 45; intro A v1 b l I; replace J := J.f0 l; replace n := n.p0 l; replace Z := Z.a I; clear I l; have c := b.c1)
  | ((with_reducible refine gate_dst (N := 2) rfl ?_); apply boxE 2 #[.int .i64 0, .string ⟨#[]⟩, .int .i64 0, .int .i64 0, .slice none 0 0, .slice none 0 0] 36; intro o v2 i l I; replace J := J.f0 l; replace n := n.p0 l; replace b := b.b0 l; replace Z := Z.a I; clear I l; clear c; have c := b.c1; have j := i.e6; have s : o ≠ A ∧ A ≠ o := (by have D := Z.out; omega); clear c j s; have c := b.c1; have j := i.e6; have s : o ≠ A ∧ A ≠ o := (by have D := Z.out; omega); obtain ⟨a5, cP, Y⟩ := n.out.blk_; have V := Aside0.mk Y; clear Y; clear c j s; have c := b.c1; have j := i.e6; have E := V.c2; have s : o ≠ A ∧ A ≠ o ∧ o ≠ pb ∧ pb ≠ o := (by have D := Z.out; omega); obtain ⟨a0, a1, K, L, P⟩ := n.out.cells_ V.out; have a2 : (0 : Int) < ((t :: u :: l2).length : Int) := (by simp only [List.length_cons]; omega); have hk1_ := n.out.kind1 V.out; have hl1_ : (1 : Int) < ((t :: u :: l2).length : Int) := (by simp; omega))
  | ((with_reducible refine gate_dst (N := 6) rfl ?_); (try (refine gate_guard (by rfl) ?_; dsimp only)); apply kindE 6 n)
  | ((with_reducible refine gate_dst (N := 19) rfl ?_); apply takeE 19 n; intro v3 M l; rw [htl] at M; replace n := Aside0.mk M; clear M; clear V hk1_ hl1_; have D := Z.out; replace J := J.f1 l (by omega); replace b := b.b1 l (by omega); replace i := i.b1 l (by omega); clear D; replace Z := Z.k l; clear l; clear c j E s K L P a2 a0 a1; have c := b.c1; have j := i.e6; have s : o ≠ A ∧ A ≠ o := (by have D := Z.out; omega))
  | ((with_reducible refine gate_dst (N := 3) rfl ?_); apply boxE 3 #[.int .i64 0, .string ⟨#[]⟩, .int .i64 0] 64; intro O v4 m l I; replace J := J.f0 l; replace n := n.p0 l; replace b := b.b0 l; replace i := i.b0 l; replace Z := Z.a I; clear I l; clear c j s; have c := b.c1; have j := i.e6; have p := m.e3; have s : O ≠ A ∧ A ≠ O ∧ O ≠ o ∧ o ≠ O ∧ o ≠ A ∧ A ≠ o := (by have D := Z.out; omega))
  | ((with_reducible refine gate_dst (N := 4) rfl ?_); have W := m.s3 (.int .i64 t.f0) (.string t.f1) (.int .i64 t.f2); clear m; obtain ⟨v5, U, l, m⟩ := W; rw [U]; clear U; have D := Z.out; replace J := J.f1 l (by omega); replace n := n.p1 l (by omega); replace b := b.b1 l (by omega); replace i := i.b1 l (by omega); clear D; replace Z := Z.k l; clear l; clear c j p s; have c := b.c1; have j := i.e6; have p := m.c3; have s : o ≠ A ∧ A ≠ o ∧ o ≠ O ∧ O ≠ o := (by have D := Z.out; omega); apply boxE 4 #[.int .i64 0, .string ⟨#[]⟩, .int .i64 0, .int .i64 0, .slice none 0 0, .slice none 0 0] 36; intro y v6 z l I; replace J := J.f0 l; replace n := n.p0 l; replace b := b.b0 l; replace i := i.b0 l; replace m := m.b0 l; replace Z := Z.a I; clear I l; clear c j p s; have c := b.c1; have j := i.e6; have p := m.c3; have G := z.e6; have s : y ≠ A ∧ A ≠ y ∧ y ≠ o ∧ o ≠ y ∧ y ≠ O ∧ O ≠ y ∧ o ≠ A ∧ A ≠ o ∧ o ≠ O ∧ O ≠ o := (by have D := Z.out; omega))
  | ((with_reducible refine gate_dst (N := 27) rfl ?_); (try (refine gate_guard (by rfl) ?_; dsimp only)); have W := z.s6 (.int .i64 6) (.string t.f1) (.int .i64 t.f2) (.int .i64 0) (.slice none 0 0) (.slice none 0 0); clear z; obtain ⟨F, U, l, z⟩ := W; rw [U]; clear U; have D := Z.out; replace J := J.f1 l (by omega); replace n := n.p1 l (by omega); replace b := b.b1 l (by omega); replace i := i.b1 l (by omega); replace m := m.b1 l (by omega); clear D; replace Z := Z.k l; clear l; clear c j p G s; have c := b.c1; have j := i.e6; have p := m.c3; have G := z.c6; have s : o ≠ A ∧ A ≠ o ∧ o ≠ O ∧ O ≠ o ∧ o ≠ y ∧ y ≠ o := (by have D := Z.out; omega); refine goesP_ (some 27) rfl rfl Try.func62 (by kernel_rfl) rfl #[.pointer (some ⟨pb, 0, none⟩), .func (.func 63) #[] #[.pointer (some ⟨A, 0, none⟩), .pointer (some ⟨y, 0, none⟩)]] rfl (by (try simp only [List.map_toArray, List.map_cons, List.map_nil]); first | done | rfl) ?_; have X : ∀ w2, PS B w2 pb (SP.tl (u :: l2)) (d + 1) → Fr (fun k => k = pb) F w2 → Calls Try.prog 63 #[.pointer (some ⟨A, 0, none⟩), .pointer (some ⟨y, 0, none⟩)] w2 (AnsC r1 B pb (d + 1) (fun k => k = pb ∨ k = y) w2 (fun (x : SP.Nd) (w_ : World) => Kids y (fun k => F.heap.size ≤ k ∧ k ≠ y) (.int .i64 6) (.string t.f1) (.int .i64 t.f2) (.int .i64 0) (.slice none 0 0) [x] w_)) := (fun w2 hps2 hf2 => (tree_expr1.calls ihx w2 _ _ _ hps2 (hf2.blk b.out (show ¬ (A = pb) from by have D := Z.out; omega)) (hf2.blk z.out (show ¬ (y = pb) from by have D := Z.out; omega)) (by have D := Z.out; omega) (by have D := Z.out; omega) (by have D := Z.out; omega) hx ⟨rfl⟩).mono (fun e w' h_ => h_.imp (fun a w' _ a3 => Kids.mono a3 (fun k Q a6 => (show _ ∧ _ from ⟨Nat.le_trans hf2.size Q.1, Q.2⟩))))); have C : ∀ a w1 w2, (fun (x : SP.Nd) (w_ : World) => Kids y (fun k => F.heap.size ≤ k ∧ k ≠ y) (.int .i64 6) (.string t.f1) (.int .i64 t.f2) (.int .i64 0) (.slice none 0 0) [x] w_) a w1 → Fr (fun k => k = pb) w1 w2 → (fun (x : SP.Nd) (w_ : World) => Kids y (fun k => F.heap.size ≤ k ∧ k ≠ y) (.int .i64 6) (.string t.f1) (.int .i64 t.f2) (.int .i64 0) (.slice none 0 0) [x] w_) a w2 := (fun a_ w1_ w2_ h_ a4 => Kids.fr h_ a4 (show ¬ (y = pb) from by have D := Z.out; omega) (fun k hk => (show ¬ (k = pb) from by have D := Z.out; have a7 : F.heap.size ≤ k ∧ k ≠ y := hk; omega))); refine (tree_within.good _ 63 Try.func63 (by kernel_rfl) rfl #[] #[.pointer (some ⟨A, 0, none⟩), .pointer (some ⟨y, 0, none⟩)] #[.pointer (some ⟨A, 0, none⟩), .pointer (some ⟨y, 0, none⟩)] (by simp) (fun k => k = pb ∨ k = y) (fun k hk => .inl hk) (fun (x : SP.Nd) (w_ : World) => Kids y (fun k => F.heap.size ≤ k ∧ k ≠ y) (.int .i64 6) (.string t.f1) (.int .i64 t.f2) (.int .i64 0) (.slice none 0 0) [x] w_) C r1 X n.out hd).mono ?_; clear C X; rintro e_ v8 R; rcases r1 with x_ | ⟨x, l3⟩; (obtain ⟨rfl, l⟩ := R; obtain rfl : r = Except.error x_ := (Option.some.inj H.out).symm; exact Or.inr ⟨_, rfl, rfl, rfl, J.out.then_ l (fun k (hk : k = pb ∨ k = y) => (show k = pb ∨ w.heap.size ≤ k from by have D := Z.out; omega))⟩); obtain ⟨rfl, ⟨AK, cK, S, T⟩, M, l⟩ := R; obtain rfl : r = Except.ok (SP.Nd.mk 6 t.f1 t.f2 0 [] [x], l3) := (Option.some.inj H.out).symm; refine Or.inl ⟨_, rfl, ?_⟩; replace n := Aside0.mk M; replace z := Aside0.mk S; have QK := Aside0.mk T; have D := Z.out; replace J := Aside0.mk (J.out.then_ l (fun k (hk : (k = pb ∨ k = y)) => (show (k = pb) ∨ w.heap.size ≤ k from by omega))); replace b := Aside0.mk (l.blk b.out (show ¬ ((A = pb ∨ A = y)) from by omega)); replace i := Aside0.mk (l.blk i.out (show ¬ ((o = pb ∨ o = y)) from by omega)); replace m := Aside0.mk (l.blk m.out (show ¬ ((O = pb ∨ O = y)) from by omega)); clear D; replace Z := Z.k l; clear M S T l; clear c j p G s; have c := b.c1; have j := i.e6; have p := m.c3; have G := z.c6; have s : o ≠ A ∧ A ≠ o ∧ o ≠ O ∧ O ≠ o ∧ o ≠ y ∧ y ≠ o := (by have D := Z.out; omega)))
 have W := i.s6 (.int .i64 6) (.string t.f1) (.int .i64 t.f2) (.int .i64 0) (.slice none 0 0) (.slice AK 1 cK)
 clear i
 obtain ⟨v9, U, l, i⟩ := W
 rw [U]
 clear U
 have D := Z.out
 replace J := J.f1 l (by omega)
 replace n := n.p1 l (by omega)
 replace b := b.b1 l (by omega)
 replace m := m.b1 l (by omega)
 replace z := z.b1 l (by omega)
 replace QK := QK.q1 l (fun k hk => by omega)
 clear D
 replace Z := Z.k l
 clear l
 clear c j p G s
 have c := b.c1
 have j := i.e6
 have p := m.c3
 have G := z.c6
 have s : o ≠ A ∧ A ≠ o ∧ o ≠ O ∧ O ≠ o ∧ o ≠ y ∧ y ≠ o := (by have D := Z.out; omega)
 refine bodyPost_ret (results_c rfl _ _ o 36 _ (0, 0) _ rfl i.out hu36 rfl rfl) rfl ?_
 exact ⟨_, rfl, ⟨_, _, rfl, Kd.Q_nil _ _ _ _ _, Q_mono' QK.out (fun k h1 h2 => (show w.heap.size ≤ k from by have D := Z.out; have h3 : F.heap.size ≤ k ∧ k ≠ y := h1; omega))⟩, n.out, J.out⟩
theorem tree_expression.step {k : Nat} (ihx : CN 48 SP.expr k) (ihc : CN 64 SP.casc k) : CN 48 SP.expr (k + 1) := by
 intro B pb d l r w hr h
 unfold SP.expr at hr
 cases l with
 | nil => simp [SP.top] at hr
 | cons t l =>
  simp only [SP.top] at hr
  by_cases h1 : t.f0 = 1
  ·rw [if_pos h1] at hr
   cases l with
   | nil => simp at hr
   | cons u l =>
    simp only [List.drop_succ_cons, List.drop_zero] at hr
    by_cases h7 : u.f0 = 7
    ·rw [if_pos h7] at hr
     have htl : SP.tl (t :: u :: l) = u :: l := by simp [SP.tl, h1]
     unfold SP.within at hr
     by_cases hd : d = 40
     ·rw [if_pos hd] at hr
      simp only [SP.bad, SP.top, Option.some.injEq] at hr
      subst hr
      exact tree_expression.poor w h (bt_ h1) (bt_ h7) htl (bt_ hd)
     ·rw [if_neg hd] at hr
      change SP.bind (SP.expr k (d + 1) (SP.tl (u :: l))) _ = _ at hr
      cases hx : SP.expr k (d + 1) (SP.tl (u :: l)) with
      | none => rw [hx] at hr; simp [SP.bind] at hr
      | some r1 =>
       rw [hx] at hr
       exact tree_expression.good ihx w h (bt_ h1) (bt_ h7) htl (bf_ hd) hx ⟨hr⟩
    ·rw [if_neg h7] at hr
     exact tree_expression.name ihc w h (bt_ h1) (bf_ h7) hr
  ·rw [if_neg h1] at hr
   exact tree_expression.other ihc w h (bf_ h1) hr
end Go.Proofs.Ytpodpmjlkbbkoaa.P
set_option maxHeartbeats 16000000
set_option maxRecDepth 100000
namespace Go.Proofs.Ytpodpmjlkbbkoaa.P
open Go.RowKit Go.Proofs.YtpodpmjlkbbkoaaW.PrintWords Go.Proofs.YtpodpmjlkbbkoaaW.PrintLast Go.Proofs.YtpodpmjlkbbkoaaW.PrintMore
variable [Low]
omit [Low] in
theorem reps_both {α : Type} {R : α → List Value → Prop} {size : Nat} {xs ys : List α} {a b : List Value} (h : Reps R size xs a) (k : Reps R size ys b) : Reps R size (xs ++ ys) (a ++ b) := by
 refine ⟨by rw [List.length_append, List.length_append, h.1, k.1, Nat.add_mul], fun j p hj => ?_⟩
 rcases Nat.lt_or_ge j xs.length with hlt | hge
 ·rw [List.getElem?_append_left hlt] at hj
  have h1 : j * size + size ≤ a.length := by rw [h.1, ← Nat.succ_mul]; exact Nat.mul_le_mul_right _ hlt
  rw [List.drop_append_of_le_length (by omega), List.take_append_of_le_length (by rw [List.length_drop]; omega)]
  exact h.2 j p hj
 ·rw [List.getElem?_append_right hge] at hj
  have e : j * size = a.length + (j - xs.length) * size := by rw [h.1, ← Nat.add_mul]; congr 1; omega
  rw [e, List.drop_append]
  rw [List.drop_of_length_le (by omega), List.nil_append, show a.length + (j - xs.length) * size - a.length = (j - xs.length) * size by omega]
  exact k.2 _ p hj
omit [Low] in
theorem kids_after {W : World} {S T : Nat → Prop} {bT : Nat} {x : SP.Nd} {A : Option Addr} {c : Nat} {ks : List SP.Nd} (ty : TypeId) (hv : kNd.Q 36 W 0 S (.slice (some ⟨bT, 0, none⟩) 1 1) [x]) (hk : kNd.Q 36 W 0 T (.slice A ks.length c) ks) (hT : ∀ k, T k → S k ∧ k ≠ bT) (hfresh : ∀ k, W.heap.size ≤ k → S k) (hl : ks.length < 1099511627776) :
  ∃ A1 c1 w1, (Builtin.append_ #[34, 34] ty #[.slice (some ⟨bT, 0, none⟩) 1 1, .slice A ks.length c]).run Try.prog W = .ok (.slice A1 (ks.length + 1) c1) w1 ∧ kNd.Q 36 w1 0 S (.slice A1 (ks.length + 1) c1) (x :: ks) ∧ Fr (fun k => k = bT) W w1 := by
 obtain ⟨i0, hi, hzz⟩ := Option.map_eq_some_iff.1 info36
 simp only [Prod.mk.injEq] at hzz
 obtain ⟨hz0, hz1, hz2⟩ := hzz
 cases ks with
 | nil =>
  refine ⟨_, _, W, ?_, hv, Fr.refl _ _⟩
  cases A with
  | none => simp [Builtin.append_, run_underlying Try.underlying34, sizeOf, typeInfo, hi, Builtin.lenOf, Builtin.firstCells, storeCells, loadCells, loadCellsFrom]
  | some ad => simp [Builtin.append_, run_underlying Try.underlying34, sizeOf, typeInfo, hi, Builtin.lenOf, Builtin.firstCells, storeCells, loadCells, loadCellsFrom]
 | cons y ys =>
  obtain ⟨h0, inner, hown, hr⟩ := hv
  obtain ⟨k0, kinner, kown, kr⟩ := hk
  obtain ⟨ad, hA, hcells⟩ := q_cells kown (by simp)
  subst hA
  have hone : ∀ u ∈ kinner, u.oneCell' = true := by
   intro u hu
   obtain ⟨i, hi, rfl⟩ := List.mem_iff_getElem.1 hu
   have hlen : kinner.length = (y :: ys).length * 6 := kr.1
   have hj : i / 6 < (y :: ys).length := by
    rw [hlen] at hi
    exact Nat.div_lt_of_lt_mul (by rw [Nat.mul_comm]; exact hi)
   have h1 := kNd.K_one (kNd.K_of_M (kr.2 (i / 6) _ (List.getElem?_eq_getElem hj)))
   refine h1 _ ?_
   refine List.mem_iff_getElem?.2 ⟨i % 6, ?_⟩
   have h6 : kNd.sz = 6 := rfl
   rw [h6, List.getElem?_take, if_pos (Nat.mod_lt _ (by decide)), List.getElem?_drop, Nat.mul_comm, Nat.div_add_mod]
   exact List.getElem?_eq_getElem hi
  obtain ⟨a, w1, hrun, hq1, hg1, hat⟩ := q_append (P := Try.prog) W 0 34 ty 36 i0 _ kNd.sz 88 Try.underlying34 hi hz0 hz1 hz2 rfl (by decide) (.slice (some ⟨bT, 0, none⟩) 1 1) 1 inner hown ad (y :: ys).length c kinner kown.1 hcells hone (by simp) (by simp only [maxLen]; omega) (by omega) (Nat.zero_le _)
  obtain ⟨A1, c1, he, hle⟩ := q_slice hq1
  have hlen : 1 + (y :: ys).length = (y :: ys).length + 1 := Nat.add_comm _ _
  rw [hlen] at he hq1
  subst he
  have hF : Fr (fun k => k = bT) W w1 := Fr.grown (S := fun k => k = bT) (w' := W) (Fr.refl _ _) hg1 (fun k hk => .inl (by simp [Value.ownBlock] at hk; exact hk.symm))
  have hblk : ∀ k, k < W.heap.size → k ≠ bT → w1.heap[k]? = W.heap[k]? := fun k h1 h2 => hF.2.2 k h1 h2
  have hne : ∀ k, k < W.heap.size → k ≠ bT → some k ≠ (Value.slice A1 ((y :: ys).length + 1) c1).ownBlock := by
   intro k h1 h2 h3
   rcases hat with hat | ⟨b, hb, hle⟩
   ·rw [← h3] at hat
    injection hat with hat
    exact h2 hat
   ·rw [← h3] at hb
    injection hb with hb
    omega
  have move : ∀ {p : SP.Nd} {cs : List Value} {o : Nat → Prop}, kNd.M W 0 o p cs → (∀ k, o k → S k ∧ k ≠ bT) → kNd.M w1 0 (fun k => S k ∧ some k ≠ (Value.slice A1 ((y :: ys).length + 1) c1).ownBlock) p cs := by
   intro p cs o hp ho
   have h1 := kNd.M_bound hp
   exact kNd.M_mono (fun k hk => ⟨(ho k hk.1).1, hne k hk.2.2.1 (ho k hk.1).2⟩) (kNd.M_move (fun k hk => hblk k hk.2.2.1 (ho k hk.1).2) h1)
  refine ⟨A1, c1, w1, hrun, ⟨fun k hk => ?_, inner ++ kinner, hq1, ?_⟩, hF⟩
  ·rcases hat with hat | ⟨b, hb, hle⟩
   ·exact h0 k (by rw [← hat]; exact hk)
   ·rw [hk] at hb
    injection hb with hb
    exact hfresh k (by omega)
  ·exact reps_both (xs := [x]) (hr.imp_ (fun p cs hp => move hp (fun k hk => ⟨hk.1, fun e => hk.2 (by rw [e]; rfl)⟩))) (kr.imp_ (fun p cs hp => move hp (fun k hk => hT k hk.1)))
def CS (k : Nat) : Prop := ∀ (B pb : Nat) (d : Int) (l : List S28) (x0 : SP.Nd) (T : Nat → Prop) (u : Value) (r : Except (Int × Int) (SP.Nd × List S28)) (w : World), SP.sent k d x0 l = some r → PS B w pb l d → NV T w x0 u → (∀ k, T k → B ≤ k ∧ k < w.heap.size) →
 Calls Try.prog 79 #[.pointer (some ⟨pb, 0, none⟩), u] w (Ans r B pb d w (fun x v w' => NV (fun q => T q ∨ w.heap.size ≤ q) w' x v))
theorem tree_sent.calls {k : Nat} (ihm : CN 70 SP.msg k) {B pb : Nat} {l : List S28} {d : Int} {x0 : SP.Nd} {T : Nat → Prop} {u : Value} {r : Except (Int × Int) (SP.Nd × List S28)} {r1 : Except (Int × Int) (SP.Nd × List S28)} (hml : ∀ m l2, r1 = Except.ok (m, l2) → m.kids.length < 1099511627776) (w : World) (h : PS B w pb l d) (hx0 : NV T w x0 u) (hT : ∀ k, T k → B ≤ k ∧ k < w.heap.size)
  (hx : SP.msg k d l = some r1) (H : Aside0 (SP.bind (some r1) (fun m l2 => SP.ret (SP.Nd.mk 7 m.text m.place 0 [] (x0 :: m.kids)) l2) = some r)) :
  Calls Try.prog 79 #[.pointer (some ⟨pb, 0, none⟩), u] w (Ans r B pb d w (fun x v w' => NV (fun q => T q ∨ w.heap.size ≤ q) w' x v)) := by
 have hu36 := Try.underlying36
 have J := Aside0.mk (Fr.refl (fun k => k = pb) w)
 have j := Aside0.mk h
 have Z := Aside0.mk (And.intro j.out.1 (And.intro j.out.2.1 (Nat.le_refl w.heap.size)))
 clear h
 obtain ⟨nv0, kv0, rfl, D⟩ := hx0
 obtain ⟨An0, cn0, rfl, _⟩ := Kd.Q_slice D.1
 obtain ⟨Ak0, ck0, rfl, _⟩ := Kd.Q_slice D.2
 have o := Aside0.mk (D.mono (T := fun k => T k ∧ (B ≤ k ∧ k < w.heap.size)) (fun k h1 _ => ⟨h1, hT k h1⟩))
 clear D
 go_enter Try.func79, Try.ntmps79
 go_wp2_with (first
  | ((with_reducible refine gate_dst (N := 3) rfl ?_); apply boxE 3 #[.int .i64 x0.kind, .string x0.text, .int .i64 x0.place, .int .i64 x0.n, .slice An0 x0.names.length cn0, .slice Ak0 x0.kids.length ck0] 36; intro s v1 b c U; replace J := J.f0 c; replace j := j.p0 c; replace o := o.n0 c; replace Z := Z.a U; clear U c; have p := b.c6)
  | ((with_reducible refine gate_dst (N := 4) rfl ?_); apply boxE 4 #[.int .i64 0, .string ⟨#[]⟩, .int .i64 0, .int .i64 0, .slice none 0 0, .slice none 0 0] 36; intro O v2 e c U; replace J := J.f0 c; replace j := j.p0 c; replace o := o.n0 c; replace b := b.b0 c; replace Z := Z.a U; clear U c; clear p; have p := b.c6; have y := e.e6; have Y : O ≠ s ∧ s ≠ O := (by have V := Z.out; omega))
  | ((with_reducible refine gate_dst (N := 7) rfl ?_); (try (refine gate_guard (by rfl) ?_; dsimp only)); apply goE 7 Try.func70 (ihm _ _ _ _ _ _ hx j.out); rintro e_ v3 a2; rcases r1 with x_ | ⟨m, l2⟩; (obtain ⟨rfl, c⟩ := a2; obtain rfl : r = Except.error x_ := (Option.some.inj H.out).symm; exact Or.inr ⟨_, rfl, rfl, rfl, J.out.then_ c (fun k hk => .inl hk)⟩); obtain ⟨v_, rfl, ⟨nva, kva, rfl, D⟩, Q, c⟩ := a2; refine Or.inl ⟨_, rfl, ?_⟩; obtain ⟨Ana, cna, rfl, _⟩ := Kd.Q_slice D.1; obtain ⟨Aka, cka, rfl, _⟩ := Kd.Q_slice D.2; replace j := Aside0.mk Q; have V := Z.out; replace J := J.f1 c (by omega); replace o := o.n1 c (fun k hk => by omega); replace b := b.b1 c (by omega); replace e := e.b1 c (by omega); clear V; replace Z := Z.k c; have G := Aside0.mk (D.mono (T := fun k => (v2.heap.size ≤ k ∧ k < v3.heap.size)) (fun k h1 h2 => ⟨h1, h2⟩)); clear Q D c; clear p y Y; have p := b.c6; have y := e.e6; have Y : O ≠ s ∧ s ≠ O := (by have V := Z.out; omega); obtain rfl : r = Except.ok (SP.Nd.mk 7 m.text m.place 0 [] (x0 :: m.kids), l2) := (Option.some.inj H.out).symm)
  | ((with_reducible refine gate_dst (N := 5) rfl ?_); apply boxE 5 #[.int .i64 0, .string ⟨#[]⟩, .int .i64 0, .int .i64 0, .slice none 0 0, .slice none 0 0] 36; intro M v4 i c U; replace J := J.f0 c; replace j := j.p0 c; replace o := o.n0 c; replace b := b.b0 c; replace e := e.b0 c; replace G := G.n0 c; replace Z := Z.a U; clear U c; clear p y Y; have p := b.c6; have y := e.e6; have X := i.e6; have Y : O ≠ s ∧ s ≠ O ∧ O ≠ M ∧ M ≠ O ∧ M ≠ s ∧ s ≠ M := (by have V := Z.out; omega)))
 have a0 := i.s6 (.int .i64 m.kind) (.string m.text) (.int .i64 m.place) (.int .i64 m.n) (.slice Ana m.names.length cna) (.slice Aka m.kids.length cka)
 clear i
 obtain ⟨E, I, c, i⟩ := a0
 rw [I]
 clear I
 have V := Z.out
 replace J := J.f1 c (by omega)
 replace j := j.p1 c (by omega)
 replace o := o.n1 c (fun k hk => by omega)
 replace b := b.b1 c (by omega)
 replace e := e.b1 c (by omega)
 replace G := G.n1 c (fun k hk => by omega)
 clear V
 replace Z := Z.k c
 clear c
 clear p y X Y
 have p := b.c6
 have y := e.e6
 have X := i.e6
 have Y : O ≠ s ∧ s ≠ O ∧ O ≠ M ∧ M ≠ O ∧ M ≠ s ∧ s ≠ M := (by have V := Z.out; omega)
 refine start_ (n := 11) (S := fun w' => (w'.cell? ⟨M, 1, none⟩ = some (.string m.text)) ∧ (w'.cell? ⟨M, 2, none⟩ = some (.int .i64 m.place)) ∧ (w'.cell? ⟨M, 5, none⟩ = some (.slice Aka m.kids.length cka)) ∧ (w'.cell? ⟨s, 0, none⟩ = some (.int .i64 x0.kind)) ∧ (w'.cell? ⟨s, 1, none⟩ = some (.string x0.text)) ∧ (w'.cell? ⟨s, 2, none⟩ = some (.int .i64 x0.place)) ∧ (w'.cell? ⟨s, 3, none⟩ = some (.int .i64 x0.n)) ∧ (w'.cell? ⟨s, 4, none⟩ = some (.slice An0 x0.names.length cn0)) ∧ (w'.cell? ⟨s, 5, none⟩ = some (.slice Ak0 x0.kids.length ck0))) (ds := [10]) #[false, false, false, false, false, false, false, false, false, false, false] (by kernel_rfl) rfl rfl (show ((World.drew E).cell? ⟨M, 1, none⟩ = some (.string m.text)) ∧ ((World.drew E).cell? ⟨M, 2, none⟩ = some (.int .i64 m.place)) ∧ ((World.drew E).cell? ⟨M, 5, none⟩ = some (.slice Aka m.kids.length cka)) ∧ ((World.drew E).cell? ⟨s, 0, none⟩ = some (.int .i64 x0.kind)) ∧ ((World.drew E).cell? ⟨s, 1, none⟩ = some (.string x0.text)) ∧ ((World.drew E).cell? ⟨s, 2, none⟩ = some (.int .i64 x0.place)) ∧ ((World.drew E).cell? ⟨s, 3, none⟩ = some (.int .i64 x0.n)) ∧ ((World.drew E).cell? ⟨s, 4, none⟩ = some (.slice An0 x0.names.length cn0)) ∧ ((World.drew E).cell? ⟨s, 5, none⟩ = some (.slice Ak0 x0.kids.length ck0)) from ⟨(blk_cell i.out 1).trans rfl, (blk_cell i.out 2).trans rfl, (blk_cell i.out 5).trans rfl, (blk_cell b.out 0).trans rfl, (blk_cell b.out 1).trans rfl, (blk_cell b.out 2).trans rfl, (blk_cell b.out 3).trans rfl, (blk_cell b.out 4).trans rfl, (blk_cell b.out 5).trans rfl⟩) (fun A => ?_)
 obtain ⟨v6, I⟩ : ∃ W_, W_ = World.drew E := ⟨_, rfl⟩
 rw [← I] at A ⊢
 have c : Fr (fun _ => False) E v6 := (by rw [I]; exact (Fr.refl _ _).drew)
 replace J := J.f0 c
 replace j := j.p0 c
 replace o := o.n0 c
 replace b := b.b0 c
 replace e := e.b0 c
 replace G := G.n0 c
 replace i := i.b0 c
 replace Z := Z.k c
 clear c I
 clear p y X Y
 apply puA 0 8
 apply puA 2 10
 apply puA 6 14
 apply tkA 1 9 A
 apply tkA 3 11 A
 apply tkA 4 12 A
 apply tkA 7 15 A
 apply oN 5 (some 13); intro K hK
 refine newR_ (cs := #[.int .i64 x0.kind, .string x0.text, .int .i64 x0.place, .int .i64 x0.n, .slice An0 x0.names.length cn0, .slice Ak0 x0.kids.length ck0]) (t := 36) (by rfl) rfl ?hr ?_
 (case hr => first | (go_simp; done) | (go_simp; rfl))
 intro bT a1 F C a3
 have c : Fr (fun _ => False) v6 F := Fr.of_below a3
 replace J := J.f0 c
 replace j := j.p0 c
 replace o := o.n0 c
 replace b := b.b0 c
 replace e := e.b0 c
 replace G := G.n0 c
 replace i := i.b0 c
 replace Z := Z.k c
 replace Z := Aside0.mk (And.intro (Nat.le_of_eq a1.symm) Z.out)
 replace Z := Aside0.mk (And.intro (Nat.le_of_eq a1) Z.out)
 replace Z := Aside0.mk (And.intro (blk_lt C) Z.out)
 have R := Aside0.mk C
 clear a1 C a3 c
 refine hK.out _ _ (show (F.cell? ⟨M, 1, none⟩ = some (.string m.text)) ∧ (F.cell? ⟨M, 2, none⟩ = some (.int .i64 m.place)) ∧ (F.cell? ⟨M, 5, none⟩ = some (.slice Aka m.kids.length cka)) ∧ (F.cell? ⟨s, 0, none⟩ = some (.int .i64 x0.kind)) ∧ (F.cell? ⟨s, 1, none⟩ = some (.string x0.text)) ∧ (F.cell? ⟨s, 2, none⟩ = some (.int .i64 x0.place)) ∧ (F.cell? ⟨s, 3, none⟩ = some (.int .i64 x0.n)) ∧ (F.cell? ⟨s, 4, none⟩ = some (.slice An0 x0.names.length cn0)) ∧ (F.cell? ⟨s, 5, none⟩ = some (.slice Ak0 x0.kids.length ck0)) from ⟨(blk_cell i.out 1).trans rfl, (blk_cell i.out 2).trans rfl, (blk_cell i.out 5).trans rfl, (blk_cell b.out 0).trans rfl, (blk_cell b.out 1).trans rfl, (blk_cell b.out 2).trans rfl, (blk_cell b.out 3).trans rfl, (blk_cell b.out 4).trans rfl, (blk_cell b.out 5).trans rfl⟩) (fun A => ?_)
 clear hK K
 apply nmA 13
 have QT := Aside0.mk (row_one (S := fun k => ((T k ∧ (B ≤ k ∧ k < w.heap.size)) ∨ (w.heap.size ≤ k ∧ k ≠ O))) R.out o.out (fun k (hk : (T k ∧ (B ≤ k ∧ k < w.heap.size))) => (show (((T k ∧ (B ≤ k ∧ k < w.heap.size)) ∨ (w.heap.size ≤ k ∧ k ≠ O))) ∧ k ≠ bT from ⟨.inl hk, by have V := Z.out; have := hk.2; omega⟩)) (show ((T bT ∧ (B ≤ bT ∧ bT < w.heap.size)) ∨ (w.heap.size ≤ bT ∧ bT ≠ O)) from .inr (by have V := Z.out; omega)))
 apply oN 8 (some 16); intro K hK
 obtain ⟨AR, cR, P, L, a4, c⟩ := kids_after (W := F) 34 QT.out G.out.2 (fun k (hk : (v2.heap.size ≤ k ∧ k < v3.heap.size)) => (show (((T k ∧ (B ≤ k ∧ k < w.heap.size)) ∨ (w.heap.size ≤ k ∧ k ≠ O))) ∧ k ≠ bT from ⟨.inr (by have V := Z.out; omega), by have V := Z.out; omega⟩)) (fun k hk => (show ((T k ∧ (B ≤ k ∧ k < w.heap.size)) ∨ (w.heap.size ≤ k ∧ k ≠ O)) from .inr (by have V := Z.out; omega))) (hml m l2 rfl)
 refine appendR_ (.tmp 13) (.tmp 15) (by rfl) rfl rfl rfl rfl L ?_
 have V := Z.out
 replace J := J.f1 c (by omega)
 replace j := j.p1 c (by omega)
 replace o := o.n1 c (fun k hk => by omega)
 replace b := b.b1 c (by omega)
 replace e := e.b1 c (by omega)
 replace G := G.n1 c (fun k hk => by omega)
 replace i := i.b1 c (by omega)
 clear V
 replace Z := Z.k c
 clear c L
 have QR := Aside0.mk a4
 clear a4 QT R
 refine hK.out _ _ (show (P.cell? ⟨M, 1, none⟩ = some (.string m.text)) ∧ (P.cell? ⟨M, 2, none⟩ = some (.int .i64 m.place)) ∧ (P.cell? ⟨M, 5, none⟩ = some (.slice Aka m.kids.length cka)) ∧ (P.cell? ⟨s, 0, none⟩ = some (.int .i64 x0.kind)) ∧ (P.cell? ⟨s, 1, none⟩ = some (.string x0.text)) ∧ (P.cell? ⟨s, 2, none⟩ = some (.int .i64 x0.place)) ∧ (P.cell? ⟨s, 3, none⟩ = some (.int .i64 x0.n)) ∧ (P.cell? ⟨s, 4, none⟩ = some (.slice An0 x0.names.length cn0)) ∧ (P.cell? ⟨s, 5, none⟩ = some (.slice Ak0 x0.kids.length ck0)) from ⟨(blk_cell i.out 1).trans rfl, (blk_cell i.out 2).trans rfl, (blk_cell i.out 5).trans rfl, (blk_cell b.out 0).trans rfl, (blk_cell b.out 1).trans rfl, (blk_cell b.out 2).trans rfl, (blk_cell b.out 3).trans rfl, (blk_cell b.out 4).trans rfl, (blk_cell b.out 5).trans rfl⟩) (fun A => ?_)
 clear hK K
 apply nmA 16
 apply puA 9 17
 apply la 10 none; intro K hK
 have a5 := e.z
 have a6 := e.c6
 have a0 := e.s6 (.int .i64 7) (.string m.text) (.int .i64 m.place) (.int .i64 0) (.slice none 0 0) (.slice AR (m.kids.length + 1) cR)
 clear e
 obtain ⟨v9, I, c, e⟩ := a0
 refine skip_ (w1 := v9) (by rfl) rfl ?_ ?_
 ·rw [← I]
  clear I
  go_simp
  (try rfl)
 have V := Z.out
 replace J := J.f1 c (by omega)
 replace j := j.p1 c (by omega)
 replace o := o.n1 c (fun k hk => by omega)
 replace b := b.b1 c (by omega)
 replace G := G.n1 c (fun k hk => by omega)
 replace i := i.b1 c (by omega)
 replace QR := QR.q1 c (fun k hk => by omega)
 clear V
 replace Z := Z.k c
 clear a5 a6 I c
 refine hK.out _ _ ?_
 clear hK K
 refine done_ (by kernel_rfl) ?_
 go_wp2
 refine bodyPost_ret (results_c rfl _ _ O 36 _ (0, 0) _ rfl e.out hu36 rfl rfl) rfl ?_
 exact ⟨_, rfl, ⟨_, _, rfl, Kd.Q_nil _ _ _ _ _, Q_mono' QR.out (fun k h1 _ => h1.elim (fun h => .inl h.1) (fun h => .inr h.1))⟩, j.out, J.out⟩
omit [Low] in
theorem keys_len : ∀ (k : Nat) (d : Int) (l : List S28) (tx : ByteArray) (ks : List SP.Nd) (a : ByteArray × List SP.Nd) (l2 : List S28), SP.keys k d l tx ks = some (.ok (a, l2)) → a.2.length ≤ ks.length + k
 | 0, _, _, _, _, _, _, h => by simp [SP.keys] at h
 | k + 1, d, l, tx, ks, a, l2, h => by
  unfold SP.keys at h
  cases l with
  | nil => simp [SP.top] at h
  | cons t l =>
   simp only [SP.top] at h
   split at h
   ·cases hb : SP.binary k d (SP.tl (t :: l)) with
    | none => rw [hb] at h; simp [SP.bind] at h
    | some rb =>
     rw [hb] at h
     rcases rb with x | ⟨np, l3⟩
     ·simp [SP.bind] at h
     ·simp only [SP.bind] at h
      have := keys_len k d l3 _ _ a l2 h
      rw [List.length_append, List.length_singleton] at this
      omega
   ·simp only [SP.ret, Option.some.injEq, Except.ok.injEq, Prod.mk.injEq] at h
    obtain ⟨rfl, _⟩ := h
    exact Nat.le_add_right _ _
omit [Low] in
theorem msg_len (k : Nat) (d : Int) (l : List S28) (m : SP.Nd) (l2 : List S28) (h : SP.msg k d l = some (.ok (m, l2))) : m.kids.length ≤ k + 1 := by
 cases k with
 | zero => simp [SP.msg] at h
 | succ k =>
  unfold SP.msg at h
  cases l with
  | nil => simp [SP.top] at h
  | cons t l =>
   simp only [SP.top] at h
   split at h
   ·simp only [SP.ret, Option.some.injEq, Except.ok.injEq, Prod.mk.injEq] at h
    obtain ⟨rfl, _⟩ := h
    exact Nat.zero_le _
   ·split at h
    ·cases hb : SP.unary k d (SP.tl (t :: l)) with
     | none => rw [hb] at h; simp [SP.bind] at h
     | some rb =>
      rw [hb] at h
      rcases rb with x | ⟨np, l3⟩
      ·simp [SP.bind] at h
      ·simp only [SP.bind, SP.ret, Option.some.injEq, Except.ok.injEq, Prod.mk.injEq] at h
       obtain ⟨rfl, _⟩ := h
       simp [SP.Nd.kids]
    ·split at h
     ·cases hb : SP.keys k d (t :: l) SP.E [] with
      | none => rw [hb] at h; simp [SP.bind] at h
      | some rb =>
       rw [hb] at h
       rcases rb with x | ⟨tk, l3⟩
       ·simp [SP.bind] at h
       ·simp only [SP.bind, SP.ret, Option.some.injEq, Except.ok.injEq, Prod.mk.injEq] at h
        obtain ⟨rfl, _⟩ := h
        have := keys_len k d _ _ _ tk l3 hb
        simp only [SP.Nd.kids, List.length_nil] at this ⊢
        omega
     ·simp [SP.bad, SP.top] at h
theorem tree_sent.step {k : Nat} (ihm : CN 70 SP.msg k) (hk : k ≤ 1073741824) : CS (k + 1) := by
 intro B pb d l x0 T u r w hr h hx hT
 unfold SP.sent at hr
 cases he : SP.msg k d l with
 | none => rw [he] at hr; simp [SP.bind] at hr
 | some r1 =>
  rw [he] at hr
  refine tree_sent.calls ihm (fun m l2 e => ?_) w h hx hT he ⟨hr⟩
  subst e
  have := msg_len k d l m l2 he
  omega
end Go.Proofs.Ytpodpmjlkbbkoaa.P
