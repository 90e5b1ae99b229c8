import Derived.Test.YtpodpmjlkbbkoaaQCTD
import Derived.Test.YtpodpmjlkbbkoaaQCTA
set_option linter.all false
set_option maxHeartbeats 16000000
set_option maxRecDepth 100000
namespace Go.Proofs.Ytpodpmjlkbbkoaa.P
open Go.RowKit Go.Proofs.YtpodpmjlkbbkoaaW.PrintWords Go.Proofs.YtpodpmjlkbbkoaaW.PrintLast Go.Proofs.YtpodpmjlkbbkoaaW.PrintMore
variable [Low]
attribute [local go_sem] field64_1 field64_2
omit [Low] in
theorem NdBox.fr {g : Nat} {S X : Nat → Prop} {x : SP.Nd} {w w' : World} (h : NdBox g S x w) (hf : Fr X w w') (hg : ¬ X g) (hS : ∀ k, S k → ¬ X k) : NdBox g S x w' := by
 obtain ⟨An, cn, Ak, ck, h1, h2⟩ := h
 exact ⟨An, cn, Ak, ck, hf.blk h1 hg, hf.nq h2 hS⟩
omit [Low] in
theorem NdBox.mono {g : Nat} {S T : Nat → Prop} {x : SP.Nd} {w : World} (h : NdBox g S x w) (hs : ∀ k, S k → k < w.heap.size → T k) : NdBox g T x w := by
 obtain ⟨An, cn, Ak, ck, h1, h2⟩ := h
 exact ⟨An, cn, Ak, ck, h1, h2.mono hs⟩
omit [Low] in
theorem need_some {kd : Int} {x : SP.Nd} {l2 : List S28} {r : Except (Int × Int) (SP.Nd × List S28)} (h : SP.bind (some (Except.ok (x, l2))) (fun n l3 => SP.bind (SP.need kd l3) (fun _ l4 => SP.ret n l4)) = some r) : ∃ r2, SP.need kd l2 = some r2 := by
 cases he : SP.need kd l2 with
 | none =>
  have h2 : SP.bind (SP.need kd l2) (fun _ l4 => SP.ret x l4) = some r := h
  rw [he] at h2
  simp [SP.bind] at h2
 | some r2 => exact ⟨r2, rfl⟩
theorem tree_prim1.calls {k : Nat} (ihx : CN 48 SP.expr k) {B pb g1 g5 : Nat} {l : List S28} {d : Int} {r : Except (Int × Int) (SP.Nd × List S28)} {r1 : Except (Int × Int) (SP.Nd × List S28)} (w : World) (c0 c1 c2 c3 c4 c5 : Value) (h : PS B w pb l d)
  (h1 : w.heap[g1]? = some (.cells #[.pointer (some ⟨pb, 0, none⟩)] 45 (0, 0))) (h5 : w.heap[g5]? = some (.cells #[c0, c1, c2, c3, c4, c5] 36 (0, 0))) (hg1 : B ≤ g1) (hg5 : B ≤ g5) (h15 : g1 ≠ g5)
  (hx : SP.expr k d l = some r1) (H : Aside0 (SP.bind (some r1) (fun n l3 => SP.bind (SP.need 9 l3) (fun _ l4 => SP.ret n l4)) = some r)) :
  Calls Try.prog 84 #[.pointer (some ⟨g1, 0, none⟩), .pointer (some ⟨g5, 0, none⟩)] w (AnsC r B pb d (fun k => k = pb ∨ k = g5) w (NdBox g5 (fun k => w.heap.size ≤ k ∧ k ≠ g5))) := by
 have hu36 := Try.underlying36
 have hu64 := Try.underlying64
 have u := Aside0.mk (Fr.refl (fun k => k = pb ∨ k = g5) w)
 have j := Aside0.mk h
 have Z := Aside0.mk (And.intro j.out.1 (And.intro j.out.2.1 (Nat.le_refl w.heap.size)))
 clear h
 have b := Aside0.mk h1
 have a := Aside0.mk h5
 replace Z := Aside0.mk (And.intro hg1 (And.intro hg5 (And.intro h15 (And.intro (blk_lt h1) (And.intro (blk_lt h5) Z.out)))))
 clear h1 h5 hg1 hg5 h15
 have c := b.c1
 have e := a.e6
 have p : g5 ≠ g1 ∧ g1 ≠ g5 := (by have t := Z.out; omega)
 go_enter Try.func84, Try.ntmps84
 go_wp2_with (first
  | ((with_reducible refine gate_dst (N := 3) rfl ?_); (try (refine gate_guard (by rfl) ?_; dsimp only)); apply goE 3 Try.func48 (ihx _ _ _ _ _ _ hx j.out); rintro z A q; rcases r1 with x_ | ⟨x, l2⟩; (obtain ⟨rfl, i⟩ := q; obtain rfl : r = Except.error x_ := (Option.some.inj H.out).symm; exact Or.inr ⟨_, rfl, rfl, rfl, u.out.then_ i (fun k hk => .inl (.inl hk))⟩); obtain ⟨v_, rfl, ⟨nva, kva, rfl, o⟩, m, i⟩ := q; refine Or.inl ⟨_, rfl, ?_⟩; obtain ⟨Ana, cna, rfl, _⟩ := Kd.Q_slice o.1; obtain ⟨Aka, cka, rfl, _⟩ := Kd.Q_slice o.2; replace j := Aside0.mk m; have t := Z.out; replace u := u.f1 i (by omega); replace b := b.b1 i (by omega); replace a := a.b1 i (by omega); clear t; replace Z := Z.k i; have s := Aside0.mk (o.mono (T := fun k => (w.heap.size ≤ k ∧ k < A.heap.size)) (fun k h1 h2 => ⟨h1, h2⟩)); clear m o i; clear c e p; have c := b.c1; have e := a.e6; have p : g5 ≠ g1 ∧ g1 ≠ g5 := (by have t := Z.out; omega))
  | ((with_reducible refine gate_dst (N := 5) rfl ?_); (try (refine gate_guard (by rfl) ?_; dsimp only)); have y := a.s6 (.int .i64 x.kind) (.string x.text) (.int .i64 x.place) (.int .i64 x.n) (.slice Ana x.names.length cna) (.slice Aka x.kids.length cka); clear a; obtain ⟨D, v, i, a⟩ := y; rw [v]; clear v; have t := Z.out; replace u := u.f1 i (by omega); replace j := j.p1 i (by omega); replace b := b.b1 i (by omega); replace s := s.n1 i (fun k hk => by omega); clear t; replace Z := Z.k i; clear i; clear c e p; have c := b.c1; have e := a.e6; have p : g5 ≠ g1 ∧ g1 ≠ g5 := (by have t := Z.out; omega); obtain ⟨r2, hr2⟩ := need_some H.out; apply goE 5 Try.func22 (tree_need.calls _ 9 hr2 j.out); rintro z G q; rcases r2 with x_ | ⟨t_, l3⟩; (obtain ⟨rfl, i⟩ := q; obtain rfl : r = Except.error x_ := (by have := H.out; rw [show SP.bind (some (Except.ok (x, l2))) _ = SP.bind (SP.need 9 l2) (fun _ l4 => SP.ret x l4) from rfl, hr2] at this; exact (Option.some.inj this).symm); exact Or.inr ⟨_, rfl, rfl, rfl, u.out.then_ i (fun k hk => .inl (.inl hk))⟩); obtain ⟨v_, rfl, hv_, m, i⟩ := q; subst hv_; obtain rfl : r = Except.ok (x, l3) := (by have := H.out; rw [show SP.bind (some (Except.ok (x, l2))) _ = SP.bind (SP.need 9 l2) (fun _ l4 => SP.ret x l4) from rfl, hr2] at this; exact (Option.some.inj this).symm); refine Or.inl ⟨_, rfl, ?_⟩; replace j := Aside0.mk m; clear hr2; have t := Z.out; replace u := u.f1 i (by omega); replace b := b.b1 i (by omega); replace a := a.b1 i (by omega); replace s := s.n1 i (fun k hk => by omega); clear t; replace Z := Z.k i; clear m i; clear c e p; have c := b.c1; have e := a.e6; have p : g5 ≠ g1 ∧ g1 ≠ g5 := (by have t := Z.out; omega)))
 refine bodyPost_end (results_none rfl _ _ _) rfl ?_
 exact ⟨rfl, ⟨_, _, _, _, a.out, s.out.mono (fun k h1 _ => (show w.heap.size ≤ k ∧ k ≠ g5 from by have t := Z.out; omega))⟩, j.out, u.out⟩
theorem tree_primary.leaf {kd : Int} {B pb : Nat} {t : S28} {l : List S28} {d : Int} (w : World) (h : PS B w pb (t :: l) d) (hc_ : ((t.f0 == 1) = true ∧ kd = 5) ∨ ((t.f0 == 1) = false ∧ (t.f0 == 4) = true ∧ kd = 1) ∨ ((t.f0 == 1) = false ∧ (t.f0 == 4) = false ∧ (t.f0 == 5) = true ∧ kd = 2) ∨ ((t.f0 == 1) = false ∧ (t.f0 == 4) = false ∧ (t.f0 == 5) = false ∧ (t.f0 == 6) = true ∧ kd = 3)) : Calls Try.prog 80 #[.pointer (some ⟨pb, 0, none⟩)] w (Ans (.ok ((SP.Nd.mk kd t.f1 t.f2 0 [] [], true), SP.tl (t :: l))) B pb d w (fun (x : SP.Nd × Bool) v w' => ∃ u, v = .tuple #[u, .bool x.2] ∧ NV (fun q => w.heap.size ≤ q) w' x.1 u)) := by
 rcases hc_ with ⟨h1, hkd_⟩ | ⟨h1, h4, hkd_⟩ | ⟨h1, h4, h5, hkd_⟩ | ⟨h1, h4, h5, h6, hkd_⟩
 all_goals (
  rw [hkd_]
  have hu64 := Try.underlying64
  have hu36 := Try.underlying36
  have hmf : ∀ (fn : Fn) (first cap : Array Value) (w : World), (Instr.makeFunc fn first cap).run Try.prog w = .ok (.func fn first cap) w := fun _ _ _ _ => rfl
  have O := Aside0.mk (Fr.refl (fun k => k = pb) w)
  have n := Aside0.mk h
  have Z := Aside0.mk (And.intro n.out.1 (And.intro n.out.2.1 (Nat.le_refl w.heap.size)))
  clear h
  go_enter Try.func80, Try.ntmps80
  go_wp2_with (first
   | ((with_reducible refine gate_dst (N := 1) rfl ?_); apply boxE 1 #[.pointer (some ⟨pb, 0, none⟩)] 45; intro A P b j I; replace O := O.f0 j; replace n := n.p0 j; replace Z := Z.a I; clear I j; have c := b.c1)
   | ((with_reducible refine gate_dst (N := 2) rfl ?_); apply boxE 2 #[.int .i64 0, .string ⟨#[]⟩, .int .i64 0, .int .i64 0, .slice none 0 0, .slice none 0 0] 36; intro o Q e j I; replace O := O.f0 j; replace n := n.p0 j; replace b := b.b0 j; replace Z := Z.a I; clear I j; clear c; have c := b.c1; have i := e.e6; have s : o ≠ A ∧ A ≠ o := (by have U := Z.out; omega); clear c i s; have c := b.c1; have i := e.e6; have s : o ≠ A ∧ A ≠ o := (by have U := Z.out; omega); obtain ⟨L, R, H⟩ := n.out.blk_; have y := Aside0.mk H; clear H; clear c i s; have c := b.c1; have i := e.e6; have J := y.c2; have s : o ≠ A ∧ A ≠ o ∧ o ≠ pb ∧ pb ≠ o := (by have U := Z.out; omega); obtain ⟨C, E, W, Y, X⟩ := n.out.cells_ y.out; have F : (0 : Int) < ((t :: l).length : Int) := (by simp only [List.length_cons]; omega))
   | ((with_reducible refine gate_dst (N := 4) rfl ?_); apply boxE 4 #[.int .i64 0, .string ⟨#[]⟩, .int .i64 0] 64; intro G S m j I; replace O := O.f0 j; replace n := n.p0 j; replace b := b.b0 j; replace e := e.b0 j; replace y := y.b0 j; replace Z := Z.a I; clear I j; clear c i J s W Y X F C E; have c := b.c1; have i := e.e6; have J := y.c2; have p := m.e3; have s : o ≠ A ∧ A ≠ o ∧ o ≠ pb ∧ pb ≠ o ∧ o ≠ G ∧ G ≠ o ∧ G ≠ A ∧ A ≠ G ∧ G ≠ pb ∧ pb ≠ G := (by have U := Z.out; omega); obtain ⟨C, E, W, Y, X⟩ := n.out.cells_ y.out; have F : (0 : Int) < ((t :: l).length : Int) := (by simp only [List.length_cons]; omega))
   | ((with_reducible refine gate_dst (N := 5) rfl ?_); have V := m.s3 (.int .i64 t.f0) (.string t.f1) (.int .i64 t.f2); clear m; obtain ⟨T, M, j, m⟩ := V; rw [M]; clear M; have U := Z.out; replace O := O.f1 j (by omega); replace n := n.p1 j (by omega); replace b := b.b1 j (by omega); replace e := e.b1 j (by omega); replace y := y.b1 j (by omega); clear U; replace Z := Z.k j; clear j; clear c i J p s W Y X F C E; have c := b.c1; have i := e.e6; have J := y.c2; have p := m.c3; have s : o ≠ A ∧ A ≠ o ∧ o ≠ pb ∧ pb ≠ o ∧ o ≠ G ∧ G ≠ o := (by have U := Z.out; omega); obtain ⟨C, E, W, Y, X⟩ := n.out.cells_ y.out; have F : (0 : Int) < ((t :: l).length : Int) := (by simp only [List.length_cons]; omega); clear y; apply boxE 5 #[.int .i64 0, .string ⟨#[]⟩, .int .i64 0, .int .i64 0, .slice none 0 0, .slice none 0 0] 36; intro D v5 r j I; replace O := O.f0 j; replace n := n.p0 j; replace b := b.b0 j; replace e := e.b0 j; replace m := m.b0 j; replace Z := Z.a I; clear I j; clear c i J p s W Y X F C E; have c := b.c1; have i := e.e6; have p := m.c3; have z := r.e6; have s : o ≠ A ∧ A ≠ o ∧ o ≠ G ∧ G ≠ o ∧ o ≠ D ∧ D ≠ o ∧ D ≠ A ∧ A ≠ D ∧ D ≠ G ∧ G ≠ D := (by have U := Z.out; omega))
   | ((with_reducible refine gate_dst (N := 48) rfl ?_); have V := r.s6 (.int .i64 0) (.string t.f1) (.int .i64 t.f2) (.int .i64 0) (.slice none 0 0) (.slice none 0 0); clear r; obtain ⟨v6, M, j, r⟩ := V; rw [M]; clear M; have U := Z.out; replace O := O.f1 j (by omega); replace n := n.p1 j (by omega); replace b := b.b1 j (by omega); replace e := e.b1 j (by omega); replace m := m.b1 j (by omega); clear U; replace Z := Z.k j; clear j; clear c i p z s; have c := b.c1; have i := e.e6; have p := m.c3; have z := r.e6; have s : o ≠ A ∧ A ≠ o ∧ o ≠ G ∧ G ≠ o ∧ o ≠ D ∧ D ≠ o ∧ D ≠ A ∧ A ≠ D ∧ D ≠ G ∧ G ≠ D := (by have U := Z.out; omega); have V := r.st 0 (.int .i64 kd) (cs' := #[.int .i64 kd, .string t.f1, .int .i64 t.f2, .int .i64 0, .slice none 0 0, .slice none 0 0]) rfl; rw [hkd_] at V; clear r; obtain ⟨v7, M, j, r⟩ := V; rw [M]; clear M; have U := Z.out; replace O := O.f1 j (by omega); replace n := n.p1 j (by omega); replace b := b.b1 j (by omega); replace e := e.b1 j (by omega); replace m := m.b1 j (by omega); clear U; replace Z := Z.k j; clear j; clear c i p z s; have c := b.c1; have i := e.e6; have p := m.c3; have z := r.e6; have s : o ≠ A ∧ A ≠ o ∧ o ≠ G ∧ G ≠ o ∧ o ≠ D ∧ D ≠ o ∧ D ≠ A ∧ A ≠ D ∧ D ≠ G ∧ G ≠ D := (by have U := Z.out; omega); apply takeE 48 n; intro v8 K j; replace n := Aside0.mk K; clear K; have U := Z.out; replace O := O.f1 j (by omega); replace b := b.b1 j (by omega); replace e := e.b1 j (by omega); replace m := m.b1 j (by omega); replace r := r.b1 j (by omega); clear U; replace Z := Z.k j; clear j; clear c i p z s; have c := b.c1; have i := e.e6; have p := m.c3; have z := r.e6; have s : o ≠ A ∧ A ≠ o ∧ o ≠ G ∧ G ≠ o ∧ o ≠ D ∧ D ≠ o ∧ D ≠ A ∧ A ≠ D ∧ D ≠ G ∧ G ≠ D := (by have U := Z.out; omega)))
  have V := e.s6 (.int .i64 kd) (.string t.f1) (.int .i64 t.f2) (.int .i64 0) (.slice none 0 0) (.slice none 0 0)
  rw [hkd_] at V
  clear e
  obtain ⟨v9, M, j, e⟩ := V
  rw [M]
  clear M
  have U := Z.out
  replace O := O.f1 j (by omega)
  replace n := n.p1 j (by omega)
  replace b := b.b1 j (by omega)
  replace m := m.b1 j (by omega)
  replace r := r.b1 j (by omega)
  clear U
  replace Z := Z.k j
  clear j
  clear c i p z s
  have c := b.c1
  have i := e.e6
  have p := m.c3
  have z := r.e6
  have s : o ≠ A ∧ A ≠ o ∧ o ≠ G ∧ G ≠ o ∧ o ≠ D ∧ D ≠ o ∧ D ≠ A ∧ A ≠ D ∧ D ≠ G ∧ G ≠ D := (by have U := Z.out; omega)
  refine bodyPost_ret (results_ct rfl _ _ o 36 _ (0, 0) _ rfl e.out hu36 rfl rfl) rfl ?_
  exact ⟨_, rfl, ⟨_, rfl, _, _, rfl, NQ.none_ _ _ _ _ _ _⟩, n.out, O.out⟩)
theorem tree_primary.leaf1 {B pb : Nat} {t : S28} {l : List S28} {d : Int} (w : World) (h : PS B w pb (t :: l) d) (h1 : (t.f0 == 1) = true) : Calls Try.prog 80 #[.pointer (some ⟨pb, 0, none⟩)] w (Ans (.ok ((SP.Nd.mk 5 t.f1 t.f2 0 [] [], true), SP.tl (t :: l))) B pb d w (fun (x : SP.Nd × Bool) v w' => ∃ u, v = .tuple #[u, .bool x.2] ∧ NV (fun q => w.heap.size ≤ q) w' x.1 u)) := tree_primary.leaf w h (Or.inl ⟨h1, rfl⟩)
theorem tree_primary.leaf4 {B pb : Nat} {t : S28} {l : List S28} {d : Int} (w : World) (h : PS B w pb (t :: l) d) (h1 : (t.f0 == 1) = false) (h4 : (t.f0 == 4) = true) : Calls Try.prog 80 #[.pointer (some ⟨pb, 0, none⟩)] w (Ans (.ok ((SP.Nd.mk 1 t.f1 t.f2 0 [] [], true), SP.tl (t :: l))) B pb d w (fun (x : SP.Nd × Bool) v w' => ∃ u, v = .tuple #[u, .bool x.2] ∧ NV (fun q => w.heap.size ≤ q) w' x.1 u)) := tree_primary.leaf w h (Or.inr (Or.inl ⟨h1, h4, rfl⟩))
theorem tree_primary.leaf5 {B pb : Nat} {t : S28} {l : List S28} {d : Int} (w : World) (h : PS B w pb (t :: l) d) (h1 : (t.f0 == 1) = false) (h4 : (t.f0 == 4) = false) (h5 : (t.f0 == 5) = true) : Calls Try.prog 80 #[.pointer (some ⟨pb, 0, none⟩)] w (Ans (.ok ((SP.Nd.mk 2 t.f1 t.f2 0 [] [], true), SP.tl (t :: l))) B pb d w (fun (x : SP.Nd × Bool) v w' => ∃ u, v = .tuple #[u, .bool x.2] ∧ NV (fun q => w.heap.size ≤ q) w' x.1 u)) := tree_primary.leaf w h (Or.inr (Or.inr (Or.inl ⟨h1, h4, h5, rfl⟩)))
theorem tree_primary.leaf6 {B pb : Nat} {t : S28} {l : List S28} {d : Int} (w : World) (h : PS B w pb (t :: l) d) (h1 : (t.f0 == 1) = false) (h4 : (t.f0 == 4) = false) (h5 : (t.f0 == 5) = false) (h6 : (t.f0 == 6) = true) : Calls Try.prog 80 #[.pointer (some ⟨pb, 0, none⟩)] w (Ans (.ok ((SP.Nd.mk 3 t.f1 t.f2 0 [] [], true), SP.tl (t :: l))) B pb d w (fun (x : SP.Nd × Bool) v w' => ∃ u, v = .tuple #[u, .bool x.2] ∧ NV (fun q => w.heap.size ≤ q) w' x.1 u)) := tree_primary.leaf w h (Or.inr (Or.inr (Or.inr (⟨h1, h4, h5, h6, rfl⟩))))
theorem tree_primary.list {k : Nat} (ihl : CN 82 SP.list k) {r : Except (Int × Int) ((SP.Nd × Bool) × List S28)} {r1 : Except (Int × Int) (SP.Nd × List S28)} {B pb : Nat} {t : S28} {l : List S28} {d : Int} (w : World) (h : PS B w pb (t :: l) d) (h1 : (t.f0 == 1) = false) (h4 : (t.f0 == 4) = false) (h5 : (t.f0 == 5) = false) (h6 : (t.f0 == 6) = false) (h17 : (t.f0 == 17) = true) (hl : SP.list k d (t :: l) = some r1) (H : Aside0 (SP.bind (some r1) (fun n l2 => SP.ret (n, true) l2) = some r)) :
  Calls Try.prog 80 #[.pointer (some ⟨pb, 0, none⟩)] w (Ans r B pb d w (fun (x : SP.Nd × Bool) v w' => ∃ u, v = .tuple #[u, .bool x.2] ∧ NV (fun q => w.heap.size ≤ q) w' x.1 u)) := by
 have hu64 := Try.underlying64
 have hu36 := Try.underlying36
 have hmf : ∀ (fn : Fn) (first cap : Array Value) (w : World), (Instr.makeFunc fn first cap).run Try.prog w = .ok (.func fn first cap) w := fun _ _ _ _ => rfl
 have M := Aside0.mk (Fr.refl (fun k => k = pb) w)
 have o := Aside0.mk h
 have Z := Aside0.mk (And.intro o.out.1 (And.intro o.out.2.1 (Nat.le_refl w.heap.size)))
 clear h
 go_enter Try.func80, Try.ntmps80
 go_wp2_with (first
  | ((with_reducible refine gate_dst (N := 1) rfl ?_); apply boxE 1 #[.pointer (some ⟨pb, 0, none⟩)] 45; intro J v1 c j G; replace M := M.f0 j; replace o := o.p0 j; replace Z := Z.a G; clear G j; have b := c.c1)
  | ((with_reducible refine gate_dst (N := 2) rfl ?_); apply boxE 2 #[.int .i64 0, .string ⟨#[]⟩, .int .i64 0, .int .i64 0, .slice none 0 0, .slice none 0 0] 36; intro p v2 e j G; replace M := M.f0 j; replace o := o.p0 j; replace c := c.b0 j; replace Z := Z.a G; clear G j; clear b; have b := c.c1; have i := e.e6; have A : p ≠ J ∧ J ≠ p := (by have U := Z.out; omega); clear b i A; have b := c.c1; have i := e.e6; have A : p ≠ J ∧ J ≠ p := (by have U := Z.out; omega); obtain ⟨a1, cP, Q⟩ := o.out.blk_; have y := Aside0.mk Q; clear Q; clear b i A; have b := c.c1; have i := e.e6; have I := y.c2; have A : p ≠ J ∧ J ≠ p ∧ p ≠ pb ∧ pb ≠ p := (by have U := Z.out; omega); obtain ⟨F, K, V, W, Y⟩ := o.out.cells_ y.out; have L : (0 : Int) < ((t :: l).length : Int) := (by simp only [List.length_cons]; omega))
  | ((with_reducible refine gate_dst (N := 4) rfl ?_); apply boxE 4 #[.int .i64 0, .string ⟨#[]⟩, .int .i64 0] 64; intro O v3 m j G; replace M := M.f0 j; replace o := o.p0 j; replace c := c.b0 j; replace e := e.b0 j; replace y := y.b0 j; replace Z := Z.a G; clear G j; clear b i I A V W Y L F K; have b := c.c1; have i := e.e6; have I := y.c2; have s := m.e3; have A : p ≠ J ∧ J ≠ p ∧ p ≠ pb ∧ pb ≠ p ∧ p ≠ O ∧ O ≠ p ∧ O ≠ J ∧ J ≠ O ∧ O ≠ pb ∧ pb ≠ O := (by have U := Z.out; omega); obtain ⟨F, K, V, W, Y⟩ := o.out.cells_ y.out; have L : (0 : Int) < ((t :: l).length : Int) := (by simp only [List.length_cons]; omega))
  | ((with_reducible refine gate_dst (N := 5) rfl ?_); have P := m.s3 (.int .i64 t.f0) (.string t.f1) (.int .i64 t.f2); clear m; obtain ⟨v4, X, j, m⟩ := P; rw [X]; clear X; have U := Z.out; replace M := M.f1 j (by omega); replace o := o.p1 j (by omega); replace c := c.b1 j (by omega); replace e := e.b1 j (by omega); replace y := y.b1 j (by omega); clear U; replace Z := Z.k j; clear j; clear b i I s A V W Y L F K; have b := c.c1; have i := e.e6; have I := y.c2; have s := m.c3; have A : p ≠ J ∧ J ≠ p ∧ p ≠ pb ∧ pb ≠ p ∧ p ≠ O ∧ O ≠ p := (by have U := Z.out; omega); obtain ⟨F, K, V, W, Y⟩ := o.out.cells_ y.out; have L : (0 : Int) < ((t :: l).length : Int) := (by simp only [List.length_cons]; omega); clear y; apply boxE 5 #[.int .i64 0, .string ⟨#[]⟩, .int .i64 0, .int .i64 0, .slice none 0 0, .slice none 0 0] 36; intro E v5 z j G; replace M := M.f0 j; replace o := o.p0 j; replace c := c.b0 j; replace e := e.b0 j; replace m := m.b0 j; replace Z := Z.a G; clear G j; clear b i I s A V W Y L F K; have b := c.c1; have i := e.e6; have s := m.c3; have D := z.e6; have A : p ≠ J ∧ J ≠ p ∧ p ≠ O ∧ O ≠ p ∧ p ≠ E ∧ E ≠ p ∧ E ≠ J ∧ J ≠ E ∧ E ≠ O ∧ O ≠ E := (by have U := Z.out; omega))
  | ((with_reducible refine gate_dst (N := 36) rfl ?_); (try (refine gate_guard (by rfl) ?_; dsimp only)); have P := z.s6 (.int .i64 0) (.string t.f1) (.int .i64 t.f2) (.int .i64 0) (.slice none 0 0) (.slice none 0 0); clear z; obtain ⟨v6, X, j, z⟩ := P; rw [X]; clear X; have U := Z.out; replace M := M.f1 j (by omega); replace o := o.p1 j (by omega); replace c := c.b1 j (by omega); replace e := e.b1 j (by omega); replace m := m.b1 j (by omega); clear U; replace Z := Z.k j; clear j; clear b i s D A; have b := c.c1; have i := e.e6; have s := m.c3; have D := z.c6; have A : p ≠ J ∧ J ≠ p ∧ p ≠ O ∧ O ≠ p ∧ p ≠ E ∧ E ≠ p := (by have U := Z.out; omega); apply goE 36 Try.func82 (ihl _ _ _ _ _ _ hl o.out); rintro e_ v7 a0; rcases r1 with x_ | ⟨x, l2⟩; (obtain ⟨rfl, j⟩ := a0; obtain rfl : r = Except.error x_ := (Option.some.inj H.out).symm; exact Or.inr ⟨_, rfl, rfl, rfl, M.out.then_ j (fun k hk => .inl hk)⟩); obtain ⟨v_, rfl, ⟨nva, kva, rfl, C⟩, R, j⟩ := a0; refine Or.inl ⟨_, rfl, ?_⟩; obtain ⟨Ana, cna, rfl, _⟩ := Kd.Q_slice C.1; obtain ⟨Aka, cka, rfl, _⟩ := Kd.Q_slice C.2; replace o := Aside0.mk R; have U := Z.out; replace M := M.f1 j (by omega); replace c := c.b1 j (by omega); replace e := e.b1 j (by omega); replace m := m.b1 j (by omega); replace z := z.b1 j (by omega); clear U; replace Z := Z.k j; have S := Aside0.mk (C.mono (T := fun k => (v6.heap.size ≤ k ∧ k < v7.heap.size)) (fun k h1 h2 => ⟨h1, h2⟩)); clear R C j; clear b i s D A; have b := c.c1; have i := e.e6; have s := m.c3; have D := z.c6; have A : p ≠ J ∧ J ≠ p ∧ p ≠ O ∧ O ≠ p ∧ p ≠ E ∧ E ≠ p := (by have U := Z.out; omega); obtain rfl : r = Except.ok ((x, true), l2) := (Option.some.inj H.out).symm))
 have P := e.s6 (.int .i64 x.kind) (.string x.text) (.int .i64 x.place) (.int .i64 x.n) (.slice Ana x.names.length cna) (.slice Aka x.kids.length cka)
 clear e
 obtain ⟨v8, X, j, e⟩ := P
 rw [X]
 clear X
 have U := Z.out
 replace M := M.f1 j (by omega)
 replace o := o.p1 j (by omega)
 replace c := c.b1 j (by omega)
 replace m := m.b1 j (by omega)
 replace z := z.b1 j (by omega)
 replace S := S.n1 j (fun k hk => by omega)
 clear U
 replace Z := Z.k j
 clear j
 clear b i s D A
 have b := c.c1
 have i := e.e6
 have s := m.c3
 have D := z.c6
 have A : p ≠ J ∧ J ≠ p ∧ p ≠ O ∧ O ≠ p ∧ p ≠ E ∧ E ≠ p := (by have U := Z.out; omega)
 refine bodyPost_ret (results_ct rfl _ _ p 36 _ (0, 0) _ rfl e.out hu36 rfl rfl) rfl ?_
 exact ⟨_, rfl, ⟨_, rfl, _, _, rfl, S.out.mono (fun k h1 _ => (show w.heap.size ≤ k from by have U := Z.out; omega))⟩, o.out, M.out⟩
theorem tree_primary.block {k : Nat} (ihl : CN 83 SP.block k) {r : Except (Int × Int) ((SP.Nd × Bool) × List S28)} {r1 : Except (Int × Int) (SP.Nd × List S28)} {B pb : Nat} {t : S28} {l : List S28} {d : Int} (w : World) (h : PS B w pb (t :: l) d) (h1 : (t.f0 == 1) = false) (h4 : (t.f0 == 4) = false) (h5 : (t.f0 == 5) = false) (h6 : (t.f0 == 6) = false) (h17 : (t.f0 == 17) = false) (h10 : (t.f0 == 10) = true) (hl : SP.block k d (t :: l) = some r1) (H : Aside0 (SP.bind (some r1) (fun n l2 => SP.ret (n, true) l2) = some r)) :
  Calls Try.prog 80 #[.pointer (some ⟨pb, 0, none⟩)] w (Ans r B pb d w (fun (x : SP.Nd × Bool) v w' => ∃ u, v = .tuple #[u, .bool x.2] ∧ NV (fun q => w.heap.size ≤ q) w' x.1 u)) := by
 have hu64 := Try.underlying64
 have hu36 := Try.underlying36
 have hmf : ∀ (fn : Fn) (first cap : Array Value) (w : World), (Instr.makeFunc fn first cap).run Try.prog w = .ok (.func fn first cap) w := fun _ _ _ _ => rfl
 have M := Aside0.mk (Fr.refl (fun k => k = pb) w)
 have o := Aside0.mk h
 have Z := Aside0.mk (And.intro o.out.1 (And.intro o.out.2.1 (Nat.le_refl w.heap.size)))
 clear h
 go_enter Try.func80, Try.ntmps80
 go_wp2_with (first
  | ((with_reducible refine gate_dst (N := 1) rfl ?_); apply boxE 1 #[.pointer (some ⟨pb, 0, none⟩)] 45; intro J v1 c j G; replace M := M.f0 j; replace o := o.p0 j; replace Z := Z.a G; clear G j; have b := c.c1)
  | ((with_reducible refine gate_dst (N := 2) rfl ?_); apply boxE 2 #[.int .i64 0, .string ⟨#[]⟩, .int .i64 0, .int .i64 0, .slice none 0 0, .slice none 0 0] 36; intro p v2 e j G; replace M := M.f0 j; replace o := o.p0 j; replace c := c.b0 j; replace Z := Z.a G; clear G j; clear b; have b := c.c1; have i := e.e6; have A : p ≠ J ∧ J ≠ p := (by have U := Z.out; omega); clear b i A; have b := c.c1; have i := e.e6; have A : p ≠ J ∧ J ≠ p := (by have U := Z.out; omega); obtain ⟨a1, cP, Q⟩ := o.out.blk_; have y := Aside0.mk Q; clear Q; clear b i A; have b := c.c1; have i := e.e6; have I := y.c2; have A : p ≠ J ∧ J ≠ p ∧ p ≠ pb ∧ pb ≠ p := (by have U := Z.out; omega); obtain ⟨F, K, V, W, Y⟩ := o.out.cells_ y.out; have L : (0 : Int) < ((t :: l).length : Int) := (by simp only [List.length_cons]; omega))
  | ((with_reducible refine gate_dst (N := 4) rfl ?_); apply boxE 4 #[.int .i64 0, .string ⟨#[]⟩, .int .i64 0] 64; intro O v3 m j G; replace M := M.f0 j; replace o := o.p0 j; replace c := c.b0 j; replace e := e.b0 j; replace y := y.b0 j; replace Z := Z.a G; clear G j; clear b i I A V W Y L F K; have b := c.c1; have i := e.e6; have I := y.c2; have s := m.e3; have A : p ≠ J ∧ J ≠ p ∧ p ≠ pb ∧ pb ≠ p ∧ p ≠ O ∧ O ≠ p ∧ O ≠ J ∧ J ≠ O ∧ O ≠ pb ∧ pb ≠ O := (by have U := Z.out; omega); obtain ⟨F, K, V, W, Y⟩ := o.out.cells_ y.out; have L : (0 : Int) < ((t :: l).length : Int) := (by simp only [List.length_cons]; omega))
  | ((with_reducible refine gate_dst (N := 5) rfl ?_); have P := m.s3 (.int .i64 t.f0) (.string t.f1) (.int .i64 t.f2); clear m; obtain ⟨v4, X, j, m⟩ := P; rw [X]; clear X; have U := Z.out; replace M := M.f1 j (by omega); replace o := o.p1 j (by omega); replace c := c.b1 j (by omega); replace e := e.b1 j (by omega); replace y := y.b1 j (by omega); clear U; replace Z := Z.k j; clear j; clear b i I s A V W Y L F K; have b := c.c1; have i := e.e6; have I := y.c2; have s := m.c3; have A : p ≠ J ∧ J ≠ p ∧ p ≠ pb ∧ pb ≠ p ∧ p ≠ O ∧ O ≠ p := (by have U := Z.out; omega); obtain ⟨F, K, V, W, Y⟩ := o.out.cells_ y.out; have L : (0 : Int) < ((t :: l).length : Int) := (by simp only [List.length_cons]; omega); clear y; apply boxE 5 #[.int .i64 0, .string ⟨#[]⟩, .int .i64 0, .int .i64 0, .slice none 0 0, .slice none 0 0] 36; intro E v5 z j G; replace M := M.f0 j; replace o := o.p0 j; replace c := c.b0 j; replace e := e.b0 j; replace m := m.b0 j; replace Z := Z.a G; clear G j; clear b i I s A V W Y L F K; have b := c.c1; have i := e.e6; have s := m.c3; have D := z.e6; have A : p ≠ J ∧ J ≠ p ∧ p ≠ O ∧ O ≠ p ∧ p ≠ E ∧ E ≠ p ∧ E ≠ J ∧ J ≠ E ∧ E ≠ O ∧ O ≠ E := (by have U := Z.out; omega))
  | ((with_reducible refine gate_dst (N := 40) rfl ?_); (try (refine gate_guard (by rfl) ?_; dsimp only)); have P := z.s6 (.int .i64 0) (.string t.f1) (.int .i64 t.f2) (.int .i64 0) (.slice none 0 0) (.slice none 0 0); clear z; obtain ⟨v6, X, j, z⟩ := P; rw [X]; clear X; have U := Z.out; replace M := M.f1 j (by omega); replace o := o.p1 j (by omega); replace c := c.b1 j (by omega); replace e := e.b1 j (by omega); replace m := m.b1 j (by omega); clear U; replace Z := Z.k j; clear j; clear b i s D A; have b := c.c1; have i := e.e6; have s := m.c3; have D := z.c6; have A : p ≠ J ∧ J ≠ p ∧ p ≠ O ∧ O ≠ p ∧ p ≠ E ∧ E ≠ p := (by have U := Z.out; omega); apply goE 40 Try.func83 (ihl _ _ _ _ _ _ hl o.out); rintro e_ v7 a0; rcases r1 with x_ | ⟨x, l2⟩; (obtain ⟨rfl, j⟩ := a0; obtain rfl : r = Except.error x_ := (Option.some.inj H.out).symm; exact Or.inr ⟨_, rfl, rfl, rfl, M.out.then_ j (fun k hk => .inl hk)⟩); obtain ⟨v_, rfl, ⟨nva, kva, rfl, C⟩, R, j⟩ := a0; refine Or.inl ⟨_, rfl, ?_⟩; obtain ⟨Ana, cna, rfl, _⟩ := Kd.Q_slice C.1; obtain ⟨Aka, cka, rfl, _⟩ := Kd.Q_slice C.2; replace o := Aside0.mk R; have U := Z.out; replace M := M.f1 j (by omega); replace c := c.b1 j (by omega); replace e := e.b1 j (by omega); replace m := m.b1 j (by omega); replace z := z.b1 j (by omega); clear U; replace Z := Z.k j; have S := Aside0.mk (C.mono (T := fun k => (v6.heap.size ≤ k ∧ k < v7.heap.size)) (fun k h1 h2 => ⟨h1, h2⟩)); clear R C j; clear b i s D A; have b := c.c1; have i := e.e6; have s := m.c3; have D := z.c6; have A : p ≠ J ∧ J ≠ p ∧ p ≠ O ∧ O ≠ p ∧ p ≠ E ∧ E ≠ p := (by have U := Z.out; omega); obtain rfl : r = Except.ok ((x, true), l2) := (Option.some.inj H.out).symm))
 have P := e.s6 (.int .i64 x.kind) (.string x.text) (.int .i64 x.place) (.int .i64 x.n) (.slice Ana x.names.length cna) (.slice Aka x.kids.length cka)
 clear e
 obtain ⟨v8, X, j, e⟩ := P
 rw [X]
 clear X
 have U := Z.out
 replace M := M.f1 j (by omega)
 replace o := o.p1 j (by omega)
 replace c := c.b1 j (by omega)
 replace m := m.b1 j (by omega)
 replace z := z.b1 j (by omega)
 replace S := S.n1 j (fun k hk => by omega)
 clear U
 replace Z := Z.k j
 clear j
 clear b i s D A
 have b := c.c1
 have i := e.e6
 have s := m.c3
 have D := z.c6
 have A : p ≠ J ∧ J ≠ p ∧ p ≠ O ∧ O ≠ p ∧ p ≠ E ∧ E ≠ p := (by have U := Z.out; omega)
 refine bodyPost_ret (results_ct rfl _ _ p 36 _ (0, 0) _ rfl e.out hu36 rfl rfl) rfl ?_
 exact ⟨_, rfl, ⟨_, rfl, _, _, rfl, S.out.mono (fun k h1 _ => (show w.heap.size ≤ k from by have U := Z.out; omega))⟩, o.out, M.out⟩
theorem tree_primary.poor {B pb : Nat} {t : S28} {l : List S28} {d : Int} (w : World) (h : PS B w pb (t :: l) d) (h1 : (t.f0 == 1) = false) (h4 : (t.f0 == 4) = false) (h5 : (t.f0 == 5) = false) (h6 : (t.f0 == 6) = false) (h17 : (t.f0 == 17) = false) (h10 : (t.f0 == 10) = false) (h8 : (t.f0 == 8) = false) :
  Calls Try.prog 80 #[.pointer (some ⟨pb, 0, none⟩)] w (Ans (.error (t.f2, 20)) B pb d w (fun (x : SP.Nd × Bool) v w' => ∃ u, v = .tuple #[u, .bool x.2] ∧ NV (fun q => w.heap.size ≤ q) w' x.1 u)) := by
 have hu64 := Try.underlying64
 have hu36 := Try.underlying36
 have hmf : ∀ (fn : Fn) (first cap : Array Value) (w : World), (Instr.makeFunc fn first cap).run Try.prog w = .ok (.func fn first cap) w := fun _ _ _ _ => rfl
 have O := Aside0.mk (Fr.refl (fun k => k = pb) w)
 have j := Aside0.mk h
 have Z := Aside0.mk (And.intro j.out.1 (And.intro j.out.2.1 (Nat.le_refl w.heap.size)))
 clear h
 go_enter Try.func80, Try.ntmps80
 go_wp2_with (first
  | ((with_reducible refine gate_dst (N := 1) rfl ?_); apply boxE 1 #[.pointer (some ⟨pb, 0, none⟩)] 45; intro A L c m y; replace O := O.f0 m; replace j := j.p0 m; replace Z := Z.a y; clear y m; have b := c.c1)
  | ((with_reducible refine gate_dst (N := 2) rfl ?_); apply boxE 2 #[.int .i64 0, .string ⟨#[]⟩, .int .i64 0, .int .i64 0, .slice none 0 0, .slice none 0 0] 36; intro p P i m y; replace O := O.f0 m; replace j := j.p0 m; replace c := c.b0 m; replace Z := Z.a y; clear y m; clear b; have b := c.c1; have e := i.e6; have s : p ≠ A ∧ A ≠ p := (by have C := Z.out; omega); clear b e s; have b := c.c1; have e := i.e6; have s : p ≠ A ∧ A ≠ p := (by have C := Z.out; omega); obtain ⟨K, Q, E⟩ := j.out.blk_; have n := Aside0.mk E; clear E; clear b e s; have b := c.c1; have e := i.e6; have z := n.c2; have s : p ≠ A ∧ A ≠ p ∧ p ≠ pb ∧ pb ≠ p := (by have C := Z.out; omega); obtain ⟨U, V, D, G, I⟩ := j.out.cells_ n.out; have W : (0 : Int) < ((t :: l).length : Int) := (by simp only [List.length_cons]; omega))
  | ((with_reducible refine gate_dst (N := 4) rfl ?_); apply boxE 4 #[.int .i64 0, .string ⟨#[]⟩, .int .i64 0] 64; intro M R o m y; replace O := O.f0 m; replace j := j.p0 m; replace c := c.b0 m; replace i := i.b0 m; replace n := n.b0 m; replace Z := Z.a y; clear y m; clear b e z s D G I W U V; have b := c.c1; have e := i.e6; have z := n.c2; have r := o.e3; have s : p ≠ A ∧ A ≠ p ∧ p ≠ pb ∧ pb ≠ p ∧ p ≠ M ∧ M ≠ p ∧ M ≠ A ∧ A ≠ M ∧ M ≠ pb ∧ pb ≠ M := (by have C := Z.out; omega); obtain ⟨U, V, D, G, I⟩ := j.out.cells_ n.out; have W : (0 : Int) < ((t :: l).length : Int) := (by simp only [List.length_cons]; omega))
  | ((with_reducible refine gate_dst (N := 5) rfl ?_); have H := o.s3 (.int .i64 t.f0) (.string t.f1) (.int .i64 t.f2); clear o; obtain ⟨S, Y, m, o⟩ := H; rw [Y]; clear Y; have C := Z.out; replace O := O.f1 m (by omega); replace j := j.p1 m (by omega); replace c := c.b1 m (by omega); replace i := i.b1 m (by omega); replace n := n.b1 m (by omega); clear C; replace Z := Z.k m; clear m; clear b e z r s D G I W U V; have b := c.c1; have e := i.e6; have z := n.c2; have r := o.c3; have s : p ≠ A ∧ A ≠ p ∧ p ≠ pb ∧ pb ≠ p ∧ p ≠ M ∧ M ≠ p := (by have C := Z.out; omega); obtain ⟨U, V, D, G, I⟩ := j.out.cells_ n.out; have W : (0 : Int) < ((t :: l).length : Int) := (by simp only [List.length_cons]; omega); clear n; apply boxE 5 #[.int .i64 0, .string ⟨#[]⟩, .int .i64 0, .int .i64 0, .slice none 0 0, .slice none 0 0] 36; intro F T J m y; replace O := O.f0 m; replace j := j.p0 m; replace c := c.b0 m; replace i := i.b0 m; replace o := o.b0 m; replace Z := Z.a y; clear y m; clear b e z r s D G I W U V; have b := c.c1; have e := i.e6; have r := o.c3; have X := J.e6; have s : p ≠ A ∧ A ≠ p ∧ p ≠ M ∧ M ≠ p ∧ p ≠ F ∧ F ≠ p ∧ F ≠ A ∧ A ≠ F ∧ F ≠ M ∧ M ≠ F := (by have C := Z.out; omega))
  | ((with_reducible refine gate_dst (N := 20) rfl ?_); (try (refine gate_guard (by rfl) ?_; dsimp only)); have H := J.s6 (.int .i64 0) (.string t.f1) (.int .i64 t.f2) (.int .i64 0) (.slice none 0 0) (.slice none 0 0); clear J; obtain ⟨v6, Y, m, J⟩ := H; rw [Y]; clear Y; have C := Z.out; replace O := O.f1 m (by omega); replace j := j.p1 m (by omega); replace c := c.b1 m (by omega); replace i := i.b1 m (by omega); replace o := o.b1 m (by omega); clear C; replace Z := Z.k m; clear m; clear b e r X s; have b := c.c1; have e := i.e6; have r := o.c3; have X := J.c6; have s : p ≠ A ∧ A ≠ p ∧ p ≠ M ∧ M ≠ p ∧ p ≠ F ∧ F ≠ p := (by have C := Z.out; omega); apply badE 20 20 j))
 exact ⟨rfl, rfl, O.out⟩
theorem tree_primary.deep {B pb : Nat} {t : S28} {l : List S28} {d : Int} (w : World) (h : PS B w pb (t :: l) d) (h1 : (t.f0 == 1) = false) (h4 : (t.f0 == 4) = false) (h5 : (t.f0 == 5) = false) (h6 : (t.f0 == 6) = false) (h17 : (t.f0 == 17) = false) (h10 : (t.f0 == 10) = false) (h8 : (t.f0 == 8) = true) (hd : (d == 40) = true) :
  Calls Try.prog 80 #[.pointer (some ⟨pb, 0, none⟩)] w (Ans (.error (t.f2, 3)) B pb d w (fun (x : SP.Nd × Bool) v w' => ∃ u, v = .tuple #[u, .bool x.2] ∧ NV (fun q => w.heap.size ≤ q) w' x.1 u)) := by
 have hu64 := Try.underlying64
 have hu36 := Try.underlying36
 have hmf : ∀ (fn : Fn) (first cap : Array Value) (w : World), (Instr.makeFunc fn first cap).run Try.prog w = .ok (.func fn first cap) w := fun _ _ _ _ => rfl
 have O := Aside0.mk (Fr.refl (fun k => k = pb) w)
 have m := Aside0.mk h
 have Z := Aside0.mk (And.intro m.out.1 (And.intro m.out.2.1 (Nat.le_refl w.heap.size)))
 clear h
 go_enter Try.func80, Try.ntmps80
 go_wp2_with (first
  | ((with_reducible refine gate_dst (N := 1) rfl ?_); apply boxE 1 #[.pointer (some ⟨pb, 0, none⟩)] 45; intro A L c j y; replace O := O.f0 j; replace m := m.p0 j; replace Z := Z.a y; clear y j; have b := c.c1)
  | ((with_reducible refine gate_dst (N := 2) rfl ?_); apply boxE 2 #[.int .i64 0, .string ⟨#[]⟩, .int .i64 0, .int .i64 0, .slice none 0 0, .slice none 0 0] 36; intro p P i j y; replace O := O.f0 j; replace m := m.p0 j; replace c := c.b0 j; replace Z := Z.a y; clear y j; clear b; have b := c.c1; have e := i.e6; have s : p ≠ A ∧ A ≠ p := (by have C := Z.out; omega); clear b e s; have b := c.c1; have e := i.e6; have s : p ≠ A ∧ A ≠ p := (by have C := Z.out; omega); obtain ⟨K, Q, E⟩ := m.out.blk_; have n := Aside0.mk E; clear E; clear b e s; have b := c.c1; have e := i.e6; have z := n.c2; have s : p ≠ A ∧ A ≠ p ∧ p ≠ pb ∧ pb ≠ p := (by have C := Z.out; omega); obtain ⟨U, V, D, G, I⟩ := m.out.cells_ n.out; have W : (0 : Int) < ((t :: l).length : Int) := (by simp only [List.length_cons]; omega))
  | ((with_reducible refine gate_dst (N := 4) rfl ?_); apply boxE 4 #[.int .i64 0, .string ⟨#[]⟩, .int .i64 0] 64; intro M R o j y; replace O := O.f0 j; replace m := m.p0 j; replace c := c.b0 j; replace i := i.b0 j; replace n := n.b0 j; replace Z := Z.a y; clear y j; clear b e z s D G I W U V; have b := c.c1; have e := i.e6; have z := n.c2; have r := o.e3; have s : p ≠ A ∧ A ≠ p ∧ p ≠ pb ∧ pb ≠ p ∧ p ≠ M ∧ M ≠ p ∧ M ≠ A ∧ A ≠ M ∧ M ≠ pb ∧ pb ≠ M := (by have C := Z.out; omega); obtain ⟨U, V, D, G, I⟩ := m.out.cells_ n.out; have W : (0 : Int) < ((t :: l).length : Int) := (by simp only [List.length_cons]; omega))
  | ((with_reducible refine gate_dst (N := 5) rfl ?_); have H := o.s3 (.int .i64 t.f0) (.string t.f1) (.int .i64 t.f2); clear o; obtain ⟨S, Y, j, o⟩ := H; rw [Y]; clear Y; have C := Z.out; replace O := O.f1 j (by omega); replace m := m.p1 j (by omega); replace c := c.b1 j (by omega); replace i := i.b1 j (by omega); replace n := n.b1 j (by omega); clear C; replace Z := Z.k j; clear j; clear b e z r s D G I W U V; have b := c.c1; have e := i.e6; have z := n.c2; have r := o.c3; have s : p ≠ A ∧ A ≠ p ∧ p ≠ pb ∧ pb ≠ p ∧ p ≠ M ∧ M ≠ p := (by have C := Z.out; omega); obtain ⟨U, V, D, G, I⟩ := m.out.cells_ n.out; have W : (0 : Int) < ((t :: l).length : Int) := (by simp only [List.length_cons]; omega); clear n; apply boxE 5 #[.int .i64 0, .string ⟨#[]⟩, .int .i64 0, .int .i64 0, .slice none 0 0, .slice none 0 0] 36; intro F T J j y; replace O := O.f0 j; replace m := m.p0 j; replace c := c.b0 j; replace i := i.b0 j; replace o := o.b0 j; replace Z := Z.a y; clear y j; clear b e z r s D G I W U V; have b := c.c1; have e := i.e6; have r := o.c3; have X := J.e6; have s : p ≠ A ∧ A ≠ p ∧ p ≠ M ∧ M ≠ p ∧ p ≠ F ∧ F ≠ p ∧ F ≠ A ∧ A ≠ F ∧ F ≠ M ∧ M ≠ F := (by have C := Z.out; omega))
  | ((with_reducible refine gate_dst (N := 45) rfl ?_); (try (refine gate_guard (by rfl) ?_; dsimp only)); have H := J.s6 (.int .i64 0) (.string t.f1) (.int .i64 t.f2) (.int .i64 0) (.slice none 0 0) (.slice none 0 0); clear J; obtain ⟨v6, Y, j, J⟩ := H; rw [Y]; clear Y; have C := Z.out; replace O := O.f1 j (by omega); replace m := m.p1 j (by omega); replace c := c.b1 j (by omega); replace i := i.b1 j (by omega); replace o := o.b1 j (by omega); clear C; replace Z := Z.k j; clear j; clear b e r X s; have b := c.c1; have e := i.e6; have r := o.c3; have X := J.c6; have s : p ≠ A ∧ A ≠ p ∧ p ≠ M ∧ M ≠ p ∧ p ≠ F ∧ F ≠ p := (by have C := Z.out; omega); apply goE 45 Try.func62 (tree_within.poor _ 84 _ _ m.out hd); rintro e_ w_ ⟨rfl, j⟩; exact Or.inr ⟨_, rfl, rfl, rfl, O.out.then_ j (fun k hk => .inl hk)⟩))
theorem tree_primary.open {k : Nat} (ihx : CN 48 SP.expr k) {r : Except (Int × Int) ((SP.Nd × Bool) × List S28)} {rc r1 : Except (Int × Int) (SP.Nd × List S28)} {B pb : Nat} {t : S28} {l : List S28} {d : Int} (w : World) (h : PS B w pb (t :: l) d) (h1 : (t.f0 == 1) = false) (h4 : (t.f0 == 4) = false) (h5 : (t.f0 == 5) = false) (h6 : (t.f0 == 6) = false) (h17 : (t.f0 == 17) = false) (h10 : (t.f0 == 10) = false) (h8 : (t.f0 == 8) = true) (hd : (d == 40) = false) (hx : SP.expr k (d + 1) (SP.tl (t :: l)) = some r1) (hc : Aside0 (SP.bind (some r1) (fun n l3 => SP.bind (SP.need 9 l3) (fun _ l4 => SP.ret n l4)) = some rc)) (H : Aside0 (SP.bind (some rc) (fun n l4 => SP.ret (n, false) l4) = some r)) :
  Calls Try.prog 80 #[.pointer (some ⟨pb, 0, none⟩)] w (Ans r B pb d w (fun (x : SP.Nd × Bool) v w' => ∃ u, v = .tuple #[u, .bool x.2] ∧ NV (fun q => w.heap.size ≤ q) w' x.1 u)) := by
 have hu64 := Try.underlying64
 have hu36 := Try.underlying36
 have hmf : ∀ (fn : Fn) (first cap : Array Value) (w : World), (Instr.makeFunc fn first cap).run Try.prog w = .ok (.func fn first cap) w := fun _ _ _ _ => rfl
 have W := Aside0.mk (Fr.refl (fun k => k = pb) w)
 have p := Aside0.mk h
 have Z := Aside0.mk (And.intro p.out.1 (And.intro p.out.2.1 (Nat.le_refl w.heap.size)))
 clear h
 go_enter Try.func80, Try.ntmps80
 go_wp2_with (first
  | ((with_reducible refine gate_dst (N := 1) rfl ?_); apply boxE 1 #[.pointer (some ⟨pb, 0, none⟩)] 45; intro I v1 b m O; replace W := W.f0 m; replace p := p.p0 m; replace Z := Z.a O; clear O m; have c := b.c1)
  | ((with_reducible refine gate_dst (N := 2) rfl ?_); apply boxE 2 #[.int .i64 0, .string ⟨#[]⟩, .int .i64 0, .int .i64 0, .slice none 0 0, .slice none 0 0] 36; intro s v2 i m O; replace W := W.f0 m; replace p := p.p0 m; replace b := b.b0 m; replace Z := Z.a O; clear O m; clear c; have c := b.c1; have j := i.e6; have G : s ≠ I ∧ I ≠ s := (by have M := Z.out; omega); clear c j G; have c := b.c1; have j := i.e6; have G : s ≠ I ∧ I ≠ s := (by have M := Z.out; omega); obtain ⟨a7, cP, Q⟩ := p.out.blk_; have z := Aside0.mk Q; clear Q; clear c j G; have c := b.c1; have j := i.e6; have U := z.c2; have G : s ≠ I ∧ I ≠ s ∧ s ≠ pb ∧ pb ≠ s := (by have M := Z.out; omega); obtain ⟨F, K, Y, X, C⟩ := p.out.cells_ z.out; have L : (0 : Int) < ((t :: l).length : Int) := (by simp only [List.length_cons]; omega))
  | ((with_reducible refine gate_dst (N := 4) rfl ?_); apply boxE 4 #[.int .i64 0, .string ⟨#[]⟩, .int .i64 0] 64; intro V v3 o m O; replace W := W.f0 m; replace p := p.p0 m; replace b := b.b0 m; replace i := i.b0 m; replace z := z.b0 m; replace Z := Z.a O; clear O m; clear c j U G Y X C L F K; have c := b.c1; have j := i.e6; have U := z.c2; have y := o.e3; have G : s ≠ I ∧ I ≠ s ∧ s ≠ pb ∧ pb ≠ s ∧ s ≠ V ∧ V ≠ s ∧ V ≠ I ∧ I ≠ V ∧ V ≠ pb ∧ pb ≠ V := (by have M := Z.out; omega); obtain ⟨F, K, Y, X, C⟩ := p.out.cells_ z.out; have L : (0 : Int) < ((t :: l).length : Int) := (by simp only [List.length_cons]; omega))
  | ((with_reducible refine gate_dst (N := 5) rfl ?_); have P := o.s3 (.int .i64 t.f0) (.string t.f1) (.int .i64 t.f2); clear o; obtain ⟨v4, E, m, o⟩ := P; rw [E]; clear E; have M := Z.out; replace W := W.f1 m (by omega); replace p := p.p1 m (by omega); replace b := b.b1 m (by omega); replace i := i.b1 m (by omega); replace z := z.b1 m (by omega); clear M; replace Z := Z.k m; clear m; clear c j U y G Y X C L F K; have c := b.c1; have j := i.e6; have U := z.c2; have y := o.c3; have G : s ≠ I ∧ I ≠ s ∧ s ≠ pb ∧ pb ≠ s ∧ s ≠ V ∧ V ≠ s := (by have M := Z.out; omega); obtain ⟨F, K, Y, X, C⟩ := p.out.cells_ z.out; have L : (0 : Int) < ((t :: l).length : Int) := (by simp only [List.length_cons]; omega); clear z; apply boxE 5 #[.int .i64 0, .string ⟨#[]⟩, .int .i64 0, .int .i64 0, .slice none 0 0, .slice none 0 0] 36; intro A v5 D m O; replace W := W.f0 m; replace p := p.p0 m; replace b := b.b0 m; replace i := i.b0 m; replace o := o.b0 m; replace Z := Z.a O; clear O m; clear c j U y G Y X C L F K; have c := b.c1; have j := i.e6; have y := o.c3; have J := D.e6; have G : s ≠ I ∧ I ≠ s ∧ s ≠ V ∧ V ≠ s ∧ s ≠ A ∧ A ≠ s ∧ A ≠ I ∧ I ≠ A ∧ A ≠ V ∧ V ≠ A := (by have M := Z.out; omega))
  | ((with_reducible refine gate_dst (N := 45) rfl ?_); (try (refine gate_guard (by rfl) ?_; dsimp only)); have P := D.s6 (.int .i64 0) (.string t.f1) (.int .i64 t.f2) (.int .i64 0) (.slice none 0 0) (.slice none 0 0); clear D; obtain ⟨v6, E, m, D⟩ := P; rw [E]; clear E; have M := Z.out; replace W := W.f1 m (by omega); replace p := p.p1 m (by omega); replace b := b.b1 m (by omega); replace i := i.b1 m (by omega); replace o := o.b1 m (by omega); clear M; replace Z := Z.k m; clear m; clear c j y J G; have c := b.c1; have j := i.e6; have y := o.c3; have J := D.c6; have G : s ≠ I ∧ I ≠ s ∧ s ≠ V ∧ V ≠ s ∧ s ≠ A ∧ A ≠ s := (by have M := Z.out; omega); refine goesP_ (some 45) rfl rfl Try.func62 (by kernel_rfl) rfl #[.pointer (some ⟨pb, 0, none⟩), .func (.func 84) #[] #[.pointer (some ⟨I, 0, none⟩), .pointer (some ⟨A, 0, none⟩)]] rfl (by (try simp only [List.map_toArray, List.map_cons, List.map_nil]); first | done | rfl) ?_; have R : ∀ w2, PS B w2 pb (SP.tl (t :: l)) (d + 1) → Fr (fun k => k = pb) v6 w2 → Calls Try.prog 84 #[.pointer (some ⟨I, 0, none⟩), .pointer (some ⟨A, 0, none⟩)] w2 (AnsC rc B pb (d + 1) (fun k => k = pb ∨ k = A) w2 (NdBox A (fun k => v6.heap.size ≤ k ∧ k ≠ A))) := (fun w2 hps2 hf2 => (tree_prim1.calls ihx w2 _ _ _ _ _ _ hps2 (hf2.blk b.out (show ¬ (I = pb) from by have M := Z.out; omega)) (hf2.blk D.out (show ¬ (A = pb) from by have M := Z.out; omega)) (by have M := Z.out; omega) (by have M := Z.out; omega) (by have M := Z.out; omega) hx hc).mono (fun e w' h_ => h_.imp (fun a w' _ a5 => NdBox.mono a5 (fun k a1 a8 => (show _ ∧ _ from ⟨Nat.le_trans hf2.size a1.1, a1.2⟩))))); have S : ∀ a w1 w2, (NdBox A (fun k => v6.heap.size ≤ k ∧ k ≠ A)) a w1 → Fr (fun k => k = pb) w1 w2 → (NdBox A (fun k => v6.heap.size ≤ k ∧ k ≠ A)) a w2 := (fun a_ w1_ w2_ h_ a6 => NdBox.fr h_ a6 (show ¬ (A = pb) from by have M := Z.out; omega) (fun k hk => (show ¬ (k = pb) from by have M := Z.out; have a9 : v6.heap.size ≤ k ∧ k ≠ A := hk; omega))); refine (tree_within.good _ 84 Try.func84 (by kernel_rfl) rfl #[] #[.pointer (some ⟨I, 0, none⟩), .pointer (some ⟨A, 0, none⟩)] #[.pointer (some ⟨I, 0, none⟩), .pointer (some ⟨A, 0, none⟩)] (by simp) (fun k => k = pb ∨ k = A) (fun k hk => .inl hk) (NdBox A (fun k => v6.heap.size ≤ k ∧ k ≠ A)) S rc R p.out hd).mono ?_; clear S R; rintro e_ v7 a2; rcases rc with x_ | ⟨x, l3⟩; (obtain ⟨rfl, m⟩ := a2; obtain rfl : r = Except.error x_ := (Option.some.inj H.out).symm; exact Or.inr ⟨_, rfl, rfl, rfl, W.out.then_ m (fun k (hk : k = pb ∨ k = A) => (show k = pb ∨ w.heap.size ≤ k from by have M := Z.out; omega))⟩); obtain ⟨rfl, ⟨Ana, cna, Aka, cka, a3, a4⟩, T, m⟩ := a2; obtain rfl : r = Except.ok ((x, false), l3) := (Option.some.inj H.out).symm; refine Or.inl ⟨_, rfl, ?_⟩; replace p := Aside0.mk T; replace D := Aside0.mk a3; have a0 := Aside0.mk a4; have M := Z.out; replace W := Aside0.mk (W.out.then_ m (fun k (hk : (k = pb ∨ k = A)) => (show (k = pb) ∨ w.heap.size ≤ k from by omega))); replace b := Aside0.mk (m.blk b.out (show ¬ ((I = pb ∨ I = A)) from by omega)); replace i := Aside0.mk (m.blk i.out (show ¬ ((s = pb ∨ s = A)) from by omega)); replace o := Aside0.mk (m.blk o.out (show ¬ ((V = pb ∨ V = A)) from by omega)); clear M; replace Z := Z.k m; clear T a3 a4 m; clear c j y J G; have c := b.c1; have j := i.e6; have y := o.c3; have J := D.c6; have G : s ≠ I ∧ I ≠ s ∧ s ≠ V ∧ V ≠ s ∧ s ≠ A ∧ A ≠ s := (by have M := Z.out; omega)))
 have P := i.s6 (.int .i64 x.kind) (.string x.text) (.int .i64 x.place) (.int .i64 x.n) (.slice Ana x.names.length cna) (.slice Aka x.kids.length cka)
 clear i
 obtain ⟨v8, E, m, i⟩ := P
 rw [E]
 clear E
 have M := Z.out
 replace W := W.f1 m (by omega)
 replace p := p.p1 m (by omega)
 replace b := b.b1 m (by omega)
 replace o := o.b1 m (by omega)
 replace D := D.b1 m (by omega)
 replace a0 := a0.n1 m (fun k hk => by omega)
 clear M
 replace Z := Z.k m
 clear m
 clear c j y J G
 have c := b.c1
 have j := i.e6
 have y := o.c3
 have J := D.c6
 have G : s ≠ I ∧ I ≠ s ∧ s ≠ V ∧ V ≠ s ∧ s ≠ A ∧ A ≠ s := (by have M := Z.out; omega)
 refine bodyPost_ret (results_ct rfl _ _ s 36 _ (0, 0) _ rfl i.out hu36 rfl rfl) rfl ?_
 exact ⟨_, rfl, ⟨_, rfl, _, _, rfl, a0.out.mono (fun k h1 _ => (show w.heap.size ≤ k from by have M := Z.out; have h3 : v6.heap.size ≤ k ∧ k ≠ A := h1; omega))⟩, p.out, W.out⟩
omit [Low] in
theorem bind_none {α β : Type} {x : SP.PR α} {f : α → List S28 → SP.PR β} {r : Except (Int × Int) (β × List S28)} (h : SP.bind x f = some r) : ∃ r1, x = some r1 := by
 cases x with
 | none => simp [SP.bind] at h
 | some r1 => exact ⟨r1, rfl⟩
theorem tree_primary.step {k : Nat} (ihx : CN 48 SP.expr k) (ihl : CN 82 SP.list k) (ihb : CN 83 SP.block k) : CB 80 SP.prim (k + 1) := by
 intro B pb d l r w hr h
 unfold SP.prim at hr
 cases l with
 | nil => simp [SP.top] at hr
 | cons t l =>
  simp only [SP.top] at hr
  by_cases h1 : t.f0 = 1
  ·rw [if_pos h1] at hr
   obtain rfl := Option.some.inj hr
   exact tree_primary.leaf1 w h (bt_ h1)
  rw [if_neg h1] at hr
  by_cases h4 : t.f0 = 4
  ·rw [if_pos h4] at hr
   obtain rfl := Option.some.inj hr
   exact tree_primary.leaf4 w h (bf_ h1) (bt_ h4)
  rw [if_neg h4] at hr
  by_cases h5 : t.f0 = 5
  ·rw [if_pos h5] at hr
   obtain rfl := Option.some.inj hr
   exact tree_primary.leaf5 w h (bf_ h1) (bf_ h4) (bt_ h5)
  rw [if_neg h5] at hr
  by_cases h6 : t.f0 = 6
  ·rw [if_pos h6] at hr
   obtain rfl := Option.some.inj hr
   exact tree_primary.leaf6 w h (bf_ h1) (bf_ h4) (bf_ h5) (bt_ h6)
  rw [if_neg h6] at hr
  by_cases h17 : t.f0 = 17
  ·rw [if_pos h17] at hr
   obtain ⟨r1, he⟩ := bind_none hr
   rw [he] at hr
   exact tree_primary.list ihl w h (bf_ h1) (bf_ h4) (bf_ h5) (bf_ h6) (bt_ h17) he ⟨hr⟩
  rw [if_neg h17] at hr
  by_cases h10 : t.f0 = 10
  ·rw [if_pos h10] at hr
   obtain ⟨r1, he⟩ := bind_none hr
   rw [he] at hr
   exact tree_primary.block ihb w h (bf_ h1) (bf_ h4) (bf_ h5) (bf_ h6) (bf_ h17) (bt_ h10) he ⟨hr⟩
  rw [if_neg h10] at hr
  by_cases h8 : t.f0 = 8
  ·rw [if_pos h8] at hr
   unfold SP.within at hr
   by_cases hd : d = 40
   ·rw [if_pos hd] at hr
    simp only [SP.bad, SP.top, Option.some.injEq] at hr
    subst hr
    exact tree_primary.deep w h (bf_ h1) (bf_ h4) (bf_ h5) (bf_ h6) (bf_ h17) (bf_ h10) (bt_ h8) (bt_ hd)
   ·rw [if_neg hd] at hr
    change SP.bind (SP.expr k (d + 1) (SP.tl (t :: l))) _ = _ at hr
    obtain ⟨r1, he⟩ := bind_none hr
    rw [he] at hr
    have e : SP.bind (some r1) (fun n l3 => SP.bind (SP.need 9 l3) (fun _ l4 => SP.ret (n, false) l4)) = SP.bind (SP.bind (some r1) (fun n l3 => SP.bind (SP.need 9 l3) (fun _ l4 => SP.ret n l4))) (fun n l4 => SP.ret (n, false) l4) := by
     rw [bind_assoc]
     congr 1
     funext n l3
     rw [bind_assoc]
     rfl
    rw [e] at hr
    obtain ⟨rc, hc⟩ := bind_none hr
    rw [hc] at hr
    exact tree_primary.open ihx w h (bf_ h1) (bf_ h4) (bf_ h5) (bf_ h6) (bf_ h17) (bf_ h10) (bt_ h8) (bf_ hd) he ⟨hc⟩ ⟨hr⟩
  ·rw [if_neg h8] at hr
   simp only [SP.bad, SP.top, Option.some.injEq] at hr
   subst hr
   exact tree_primary.poor w h (bf_ h1) (bf_ h4) (bf_ h5) (bf_ h6) (bf_ h17) (bf_ h10) (bf_ h8)
end Go.Proofs.Ytpodpmjlkbbkoaa.P
