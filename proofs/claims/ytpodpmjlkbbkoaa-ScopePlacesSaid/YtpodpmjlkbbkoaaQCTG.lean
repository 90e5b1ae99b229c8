import Derived.Test.YtpodpmjlkbbkoaaQCTS
import Derived.Test.YtpodpmjlkbbkoaaQCTA
set_option linter.all false
set_option maxHeartbeats 16000000
set_option maxRecDepth 100000
namespace Go.Proofs.Ytpodpmjlkbbkoaa.P
open Go.RowKit Go.Proofs.YtpodpmjlkbbkoaaW.PrintWords Go.Proofs.YtpodpmjlkbbkoaaW.PrintLast Go.Proofs.YtpodpmjlkbbkoaaW.PrintMore
variable [Low]
attribute [local go_sem] field64_1 field64_2
omit [Low] in
theorem kid_push {W : World} {S okp : Nat → Prop} {v : Value} {ks : List SP.Nd} {b : Nat} {x : SP.Nd} {nv kv : Value} (ty : TypeId) (m : Nat) (hm : ∀ k, v.ownBlock = some k → k < m) (hq : kNd.Q 36 W 0 S v ks) (hx : NQ okp W x nv kv) (hok : ∀ k, okp k → S k ∧ ∀ j, v.ownBlock = some j → k ≠ j) (hfresh : ∀ k, W.heap.size ≤ k → S k) (hSb : S b)
  (hb : W.heap[b]? = some (.cells #[.int .i64 x.kind, .string x.text, .int .i64 x.place, .int .i64 x.n, nv, kv] 36 (0, 0))) (hl : ks.length < 1099511627776) :
  ∃ A1 c1 w1 q, (Builtin.append_ #[34, 34] ty #[v, .slice (some ⟨b, 0, none⟩) 1 1]).run Try.prog W = .ok (.slice A1 (ks.length + 1) c1) w1 ∧ kNd.Q 36 w1 0 S (.slice A1 (ks.length + 1) c1) (ks ++ [x]) ∧ Fr (fun k => k = q) W w1 ∧ (S q ∧ (q < m ∨ q = b) ∧ q < W.heap.size) := by
 obtain ⟨v1, w1, hr, h1, h2, h3⟩ := Q_run_at kNd 34 ty 36 _ 88 Try.underlying34 info36 rfl (by decide) (by decide) hq hx.M (fun k hk => ⟨(hok k hk).1, fun e => (hok k hk).2 k e.symm rfl⟩) hfresh hb (by omega)
 obtain ⟨A1, c1, rfl, hle⟩ := Kd.Q_slice h1
 have hlen : (ks ++ [x]).length = ks.length + 1 := by simp
 rw [hlen] at hr h1
 have hbl := blk_lt hb
 obtain ⟨q, hq1, hq2, hq3, hq4⟩ : ∃ q, (∀ k, v.ownBlock = some k → k = q) ∧ S q ∧ (q < m ∨ q = b) ∧ q < W.heap.size := by
  cases hv : v.ownBlock with
  | none => exact ⟨b, fun k hk => (by cases hk), hSb, .inr rfl, hbl⟩
  | some k => exact ⟨k, fun j hj => (Option.some.inj hj).symm, hq.1 k hv, .inl (hm k hv), Kd.Q_lt hq k hv⟩
 exact ⟨A1, c1, w1, q, hr, h1, h2.mono hq1, hq2, hq3, hq4⟩
theorem tree_message.name {B pb : Nat} {t : S28} {l1 : List S28} {d : Int} (w : World) (h : PS B w pb (t :: l1) d) (c1 : (t.f0 == 1) = true) :
  Calls Try.prog 70 #[.pointer (some ⟨pb, 0, none⟩)] w (Ans (.ok (.mk 9 t.f1 t.f2 0 [] [], SP.tl (t :: l1))) B pb d w (fun x v w' => NV (fun q => w.heap.size ≤ q) w' x v)) := by
 have hu64 := Try.underlying64
 have hu36 := Try.underlying36
 have z := Aside0.mk (Fr.refl (fun k => k = pb) w)
 have l := Aside0.mk h
 have Z := Aside0.mk (And.intro l.out.1 (And.intro l.out.2.1 (Nat.le_refl w.heap.size)))
 clear h
 go_enter Try.func70, Try.ntmps70
 go_wp2_with (first
  | ((with_reducible refine gate_dst (N := 2) rfl ?_); apply boxE 2 #[.int .i64 0, .string ⟨#[]⟩, .int .i64 0, .int .i64 0, .slice none 0 0, .slice none 0 0] 36; intro p E b j A; replace z := z.f0 j; replace l := l.p0 j; replace Z := Z.a A; clear A j; have c := b.e6; clear c; have c := b.e6; obtain ⟨C, F, Y⟩ := l.out.blk_; have n := Aside0.mk Y; clear Y; clear c; have c := b.e6; have s := n.c2; have r : p ≠ pb ∧ pb ≠ p := (by have D := Z.out; omega); obtain ⟨U, V, G, I, J⟩ := l.out.cells_ n.out; have W : (0 : Int) < ((t :: l1).length : Int) := (by simp only [List.length_cons]; omega))
  | ((with_reducible refine gate_dst (N := 3) rfl ?_); apply boxE 3 #[.int .i64 0, .string ⟨#[]⟩, .int .i64 0] 64; intro y H e j A; replace z := z.f0 j; replace l := l.p0 j; replace b := b.b0 j; replace n := n.b0 j; replace Z := Z.a A; clear A j; clear c s r G I J W U V; have c := b.e6; have s := n.c2; have i := e.e3; have r : y ≠ p ∧ p ≠ y ∧ y ≠ pb ∧ pb ≠ y ∧ p ≠ pb ∧ pb ≠ p := (by have D := Z.out; omega); obtain ⟨U, V, G, I, J⟩ := l.out.cells_ n.out; have W : (0 : Int) < ((t :: l1).length : Int) := (by simp only [List.length_cons]; omega))
  | ((with_reducible refine gate_dst (N := 4) rfl ?_); have O := e.s3 (.int .i64 t.f0) (.string t.f1) (.int .i64 t.f2); clear e; obtain ⟨K, u, j, e⟩ := O; rw [u]; clear u; have D := Z.out; replace z := z.f1 j (by omega); replace l := l.p1 j (by omega); replace b := b.b1 j (by omega); replace n := n.b1 j (by omega); clear D; replace Z := Z.k j; clear j; clear c s i r G I J W U V; have c := b.e6; have s := n.c2; have i := e.c3; have r : p ≠ pb ∧ pb ≠ p ∧ p ≠ y ∧ y ≠ p := (by have D := Z.out; omega); obtain ⟨U, V, G, I, J⟩ := l.out.cells_ n.out; have W : (0 : Int) < ((t :: l1).length : Int) := (by simp only [List.length_cons]; omega); clear n; apply boxE 4 #[.int .i64 0, .string ⟨#[]⟩, .int .i64 0, .int .i64 0, .slice none 0 0, .slice none 0 0] 36; intro M L m j A; replace z := z.f0 j; replace l := l.p0 j; replace b := b.b0 j; replace e := e.b0 j; replace Z := Z.a A; clear A j; clear c s i r G I J W U V; have c := b.e6; have i := e.c3; have o := m.e6; have r : M ≠ p ∧ p ≠ M ∧ M ≠ y ∧ y ≠ M ∧ p ≠ y ∧ y ≠ p := (by have D := Z.out; omega))
  | ((with_reducible refine gate_dst (N := 25) rfl ?_); have O := m.s6 (.int .i64 9) (.string ⟨#[]⟩) (.int .i64 t.f2) (.int .i64 0) (.slice none 0 0) (.slice none 0 0); clear m; obtain ⟨P, u, j, m⟩ := O; rw [u]; clear u; have D := Z.out; replace z := z.f1 j (by omega); replace l := l.p1 j (by omega); replace b := b.b1 j (by omega); replace e := e.b1 j (by omega); clear D; replace Z := Z.k j; clear j; clear c i o r; have c := b.e6; have i := e.c3; have o := m.e6; have r : M ≠ p ∧ p ≠ M ∧ M ≠ y ∧ y ≠ M ∧ p ≠ y ∧ y ≠ p := (by have D := Z.out; omega); apply takeE 25 l; intro Q X j; replace l := Aside0.mk X; clear X; have D := Z.out; replace z := z.f1 j (by omega); replace b := b.b1 j (by omega); replace e := e.b1 j (by omega); replace m := m.b1 j (by omega); clear D; replace Z := Z.k j; clear j; clear c i o r; have c := b.e6; have i := e.c3; have o := m.e6; have r : M ≠ p ∧ p ≠ M ∧ M ≠ y ∧ y ≠ M ∧ p ≠ y ∧ y ≠ p := (by have D := Z.out; omega)))
 have O := m.st 1 (.string t.f1) (cs' := #[.int .i64 9, .string t.f1, .int .i64 t.f2, .int .i64 0, .slice none 0 0, .slice none 0 0]) rfl
 clear m
 obtain ⟨R, u, j, m⟩ := O
 rw [u]
 clear u
 have D := Z.out
 replace z := z.f1 j (by omega)
 replace l := l.p1 j (by omega)
 replace b := b.b1 j (by omega)
 replace e := e.b1 j (by omega)
 clear D
 replace Z := Z.k j
 clear j
 clear c i o r
 have c := b.e6
 have i := e.c3
 have o := m.c6
 have r : p ≠ y ∧ y ≠ p ∧ p ≠ M ∧ M ≠ p := (by have D := Z.out; omega)
 have O := b.s6 (.int .i64 9) (.string t.f1) (.int .i64 t.f2) (.int .i64 0) (.slice none 0 0) (.slice none 0 0)
 clear b
 obtain ⟨S, u, j, b⟩ := O
 rw [u]
 clear u
 have D := Z.out
 replace z := z.f1 j (by omega)
 replace l := l.p1 j (by omega)
 replace e := e.b1 j (by omega)
 replace m := m.b1 j (by omega)
 clear D
 replace Z := Z.k j
 clear j
 clear c i o r
 have c := b.e6
 have i := e.c3
 have o := m.c6
 have r : p ≠ y ∧ y ≠ p ∧ p ≠ M ∧ M ≠ p := (by have D := Z.out; omega)
 refine bodyPost_ret (results_c rfl _ _ p 36 _ (0, 0) _ rfl b.out hu36 rfl rfl) rfl ?_
 exact ⟨_, rfl, ⟨_, _, rfl, NQ.none_ _ _ _ _ _ _⟩, l.out, z.out⟩
theorem tree_message.sign {k : Nat} (ihu : CB 76 SP.unary k) {r : Except (Int × Int) (SP.Nd × List S28)} {r1 : Except (Int × Int) ((SP.Nd × Bool) × List S28)} {B pb : Nat} {t : S28} {l1 : List S28} {d : Int} (w : World) (h : PS B w pb (t :: l1) d) (c1 : (t.f0 == 1) = false) (c3 : (t.f0 == 3) = true) (hx : SP.unary k d (SP.tl (t :: l1)) = some r1) (H : Aside0 (SP.bind (some r1) (fun np l2 => SP.ret (SP.Nd.mk 9 t.f1 t.f2 0 [] [np.1]) l2) = some r)) :
  Calls Try.prog 70 #[.pointer (some ⟨pb, 0, none⟩)] w (Ans r B pb d w (fun x v w' => NV (fun q => w.heap.size ≤ q) w' x v)) := by
 have hu64 := Try.underlying64
 have hu36 := Try.underlying36
 have M := Aside0.mk (Fr.refl (fun k => k = pb) w)
 have o := Aside0.mk h
 have Z := Aside0.mk (And.intro o.out.1 (And.intro o.out.2.1 (Nat.le_refl w.heap.size)))
 clear h
 go_enter Try.func70, Try.ntmps70
 go_wp2_with (first
  | ((with_reducible refine gate_dst (N := 2) rfl ?_); apply boxE 2 #[.int .i64 0, .string ⟨#[]⟩, .int .i64 0, .int .i64 0, .slice none 0 0, .slice none 0 0] 36; intro p v1 b i J; replace M := M.f0 i; replace o := o.p0 i; replace Z := Z.a J; clear J i; have c := b.e6; clear c; have c := b.e6; obtain ⟨a2, cP, R⟩ := o.out.blk_; have A := Aside0.mk R; clear R; clear c; have c := b.e6; have O := A.c2; have s : p ≠ pb ∧ pb ≠ p := (by have I := Z.out; omega); obtain ⟨K, L, W, Y, X⟩ := o.out.cells_ A.out; have P : (0 : Int) < ((t :: l1).length : Int) := (by simp only [List.length_cons]; omega))
  | ((with_reducible refine gate_dst (N := 3) rfl ?_); apply boxE 3 #[.int .i64 0, .string ⟨#[]⟩, .int .i64 0] 64; intro y v2 e i J; replace M := M.f0 i; replace o := o.p0 i; replace b := b.b0 i; replace A := A.b0 i; replace Z := Z.a J; clear J i; clear c O s W Y X P K L; have c := b.e6; have O := A.c2; have l := e.e3; have s : y ≠ p ∧ p ≠ y ∧ y ≠ pb ∧ pb ≠ y ∧ p ≠ pb ∧ pb ≠ p := (by have I := Z.out; omega); obtain ⟨K, L, W, Y, X⟩ := o.out.cells_ A.out; have P : (0 : Int) < ((t :: l1).length : Int) := (by simp only [List.length_cons]; omega))
  | ((with_reducible refine gate_dst (N := 4) rfl ?_); have U := e.s3 (.int .i64 t.f0) (.string t.f1) (.int .i64 t.f2); clear e; obtain ⟨v3, D, i, e⟩ := U; rw [D]; clear D; have I := Z.out; replace M := M.f1 i (by omega); replace o := o.p1 i (by omega); replace b := b.b1 i (by omega); replace A := A.b1 i (by omega); clear I; replace Z := Z.k i; clear i; clear c O l s W Y X P K L; have c := b.e6; have O := A.c2; have l := e.c3; have s : p ≠ pb ∧ pb ≠ p ∧ p ≠ y ∧ y ≠ p := (by have I := Z.out; omega); obtain ⟨K, L, W, Y, X⟩ := o.out.cells_ A.out; have P : (0 : Int) < ((t :: l1).length : Int) := (by simp only [List.length_cons]; omega); clear A; apply boxE 4 #[.int .i64 0, .string ⟨#[]⟩, .int .i64 0, .int .i64 0, .slice none 0 0, .slice none 0 0] 36; intro u v4 j i J; replace M := M.f0 i; replace o := o.p0 i; replace b := b.b0 i; replace e := e.b0 i; replace Z := Z.a J; clear J i; clear c O l s W Y X P K L; have c := b.e6; have l := e.c3; have m := j.e6; have s : u ≠ p ∧ p ≠ u ∧ u ≠ y ∧ y ≠ u ∧ p ≠ y ∧ y ≠ p := (by have I := Z.out; omega))
  | ((with_reducible refine gate_dst (N := 31) rfl ?_); have U := j.s6 (.int .i64 9) (.string ⟨#[]⟩) (.int .i64 t.f2) (.int .i64 0) (.slice none 0 0) (.slice none 0 0); clear j; obtain ⟨v5, D, i, j⟩ := U; rw [D]; clear D; have I := Z.out; replace M := M.f1 i (by omega); replace o := o.p1 i (by omega); replace b := b.b1 i (by omega); replace e := e.b1 i (by omega); clear I; replace Z := Z.k i; clear i; clear c l m s; have c := b.e6; have l := e.c3; have m := j.e6; have s : u ≠ p ∧ p ≠ u ∧ u ≠ y ∧ y ≠ u ∧ p ≠ y ∧ y ≠ p := (by have I := Z.out; omega); apply takeE 31 o; intro v6 C i; replace o := Aside0.mk C; clear C; have I := Z.out; replace M := M.f1 i (by omega); replace b := b.b1 i (by omega); replace e := e.b1 i (by omega); replace j := j.b1 i (by omega); clear I; replace Z := Z.k i; clear i; clear c l m s; have c := b.e6; have l := e.c3; have m := j.e6; have s : u ≠ p ∧ p ≠ u ∧ u ≠ y ∧ y ≠ u ∧ p ≠ y ∧ y ≠ p := (by have I := Z.out; omega))
  | ((with_reducible refine gate_dst (N := 36) rfl ?_); (try (refine gate_guard (by rfl) ?_; dsimp only)); have U := j.st 1 (.string t.f1) (cs' := #[.int .i64 9, .string t.f1, .int .i64 t.f2, .int .i64 0, .slice none 0 0, .slice none 0 0]) rfl; clear j; obtain ⟨v7, D, i, j⟩ := U; rw [D]; clear D; have I := Z.out; replace M := M.f1 i (by omega); replace o := o.p1 i (by omega); replace b := b.b1 i (by omega); replace e := e.b1 i (by omega); clear I; replace Z := Z.k i; clear i; clear c l m s; have c := b.e6; have l := e.c3; have m := j.e6; have s : u ≠ p ∧ p ≠ u ∧ u ≠ y ∧ y ≠ u ∧ p ≠ y ∧ y ≠ p := (by have I := Z.out; omega); apply goE 36 Try.func76 (ihu _ _ _ _ _ _ hx o.out); rintro e_ v8 a1; rcases r1 with x_ | ⟨x, l2⟩; (obtain ⟨rfl, i⟩ := a1; obtain rfl : r = Except.error x_ := (Option.some.inj H.out).symm; exact Or.inr ⟨_, rfl, rfl, rfl, M.out.then_ i (fun k hk => .inl hk)⟩); obtain ⟨v_, rfl, ⟨u_, rfl, nva, kva, rfl, F⟩, C, i⟩ := a1; refine Or.inl ⟨_, rfl, ?_⟩; obtain ⟨Ana, cna, rfl, _⟩ := Kd.Q_slice F.1; obtain ⟨Aka, cka, rfl, _⟩ := Kd.Q_slice F.2; replace o := Aside0.mk C; have I := Z.out; replace M := M.f1 i (by omega); replace b := b.b1 i (by omega); replace e := e.b1 i (by omega); replace j := j.b1 i (by omega); clear I; replace Z := Z.k i; have E := Aside0.mk (F.mono (T := fun k => (v7.heap.size ≤ k ∧ k < v8.heap.size)) (fun k h1 h2 => ⟨h1, h2⟩)); clear C F i; clear c l m s; have c := b.e6; have l := e.c3; have m := j.e6; have s : u ≠ p ∧ p ≠ u ∧ u ≠ y ∧ y ≠ u ∧ p ≠ y ∧ y ≠ p := (by have I := Z.out; omega); obtain rfl : r = Except.ok (SP.Nd.mk 9 t.f1 t.f2 0 [] [x.1], l2) := (Option.some.inj H.out).symm)
  | ((with_reducible refine gate_dst (N := 5) rfl ?_); apply boxE 5 #[.int .i64 0, .string ⟨#[]⟩, .int .i64 0, .int .i64 0, .slice none 0 0, .slice none 0 0] 36; intro V v9 z i J; replace M := M.f0 i; replace o := o.p0 i; replace b := b.b0 i; replace e := e.b0 i; replace j := j.b0 i; replace E := E.n0 i; replace Z := Z.a J; clear J i; clear c l m s; have c := b.e6; have l := e.c3; have m := j.e6; have G := z.e6; have s : V ≠ p ∧ p ≠ V ∧ V ≠ y ∧ y ≠ V ∧ V ≠ u ∧ u ≠ V ∧ u ≠ p ∧ p ≠ u ∧ u ≠ y ∧ y ≠ u ∧ p ≠ y ∧ y ≠ p := (by have I := Z.out; omega))
  | ((with_reducible refine gate_dst (N := 40) rfl ?_); have U := z.s6 (.int .i64 x.1.kind) (.string x.1.text) (.int .i64 x.1.place) (.int .i64 x.1.n) (.slice Ana x.1.names.length cna) (.slice Aka x.1.kids.length cka); clear z; obtain ⟨a3, D, i, z⟩ := U; rw [D]; clear D; have I := Z.out; replace M := M.f1 i (by omega); replace o := o.p1 i (by omega); replace b := b.b1 i (by omega); replace e := e.b1 i (by omega); replace j := j.b1 i (by omega); replace E := E.n1 i (fun k hk => by omega); clear I; replace Z := Z.k i; clear i; clear c l m G s; have c := b.e6; have l := e.c3; have m := j.e6; have G := z.c6; have s : u ≠ p ∧ p ≠ u ∧ u ≠ y ∧ y ≠ u ∧ u ≠ V ∧ V ≠ u ∧ p ≠ y ∧ y ≠ p ∧ p ≠ V ∧ V ≠ p := (by have I := Z.out; omega); apply litE 40 #[.int .i64 x.1.kind, .string x.1.text, .int .i64 x.1.place, .int .i64 x.1.n, .slice Ana x.1.names.length cna, .slice Aka x.1.kids.length cka] 36 1; intro bL a4 Q i J; replace M := M.f0 i; replace o := o.p0 i; replace b := b.b0 i; replace e := e.b0 i; replace j := j.b0 i; replace E := E.n0 i; replace z := z.b0 i; replace Z := Z.a J; clear J i; clear c l m G s; have c := b.e6; have l := e.c3; have m := j.e6; have G := z.c6; have a0 := Q.c6; have s : u ≠ p ∧ p ≠ u ∧ u ≠ y ∧ y ≠ u ∧ u ≠ V ∧ V ≠ u ∧ u ≠ bL ∧ bL ≠ u ∧ p ≠ y ∧ y ≠ p ∧ p ≠ V ∧ V ≠ p ∧ p ≠ bL ∧ bL ≠ p := (by have I := Z.out; omega); have QK := Aside0.mk (row_one (S := fun k => (w.heap.size ≤ k ∧ k ≠ p ∧ k ≠ u)) Q.out E.out (fun k (hk : (v7.heap.size ≤ k ∧ k < v8.heap.size)) => (show ((w.heap.size ≤ k ∧ k ≠ p ∧ k ≠ u)) ∧ k ≠ bL from by have I := Z.out; omega)) (show (w.heap.size ≤ bL ∧ bL ≠ p ∧ bL ≠ u) from by have I := Z.out; omega)); clear Q E; clear a0))
 have U := j.st 5 (.slice (some ⟨bL, 0, none⟩) 1 1) (cs' := #[.int .i64 9, .string t.f1, .int .i64 t.f2, .int .i64 0, .slice none 0 0, .slice (some ⟨bL, 0, none⟩) 1 1]) rfl
 clear j
 obtain ⟨a5, D, i, j⟩ := U
 rw [D]
 clear D
 have I := Z.out
 replace M := M.f1 i (by omega)
 replace o := o.p1 i (by omega)
 replace b := b.b1 i (by omega)
 replace e := e.b1 i (by omega)
 replace z := z.b1 i (by omega)
 replace QK := QK.q1 i (fun k hk => by omega)
 clear I
 replace Z := Z.k i
 clear i
 clear c l m G s
 have c := b.e6
 have l := e.c3
 have m := j.c6
 have G := z.c6
 have s : p ≠ y ∧ y ≠ p ∧ p ≠ u ∧ u ≠ p ∧ p ≠ V ∧ V ≠ p := (by have I := Z.out; omega)
 have U := b.s6 (.int .i64 9) (.string t.f1) (.int .i64 t.f2) (.int .i64 0) (.slice none 0 0) (.slice (some ⟨bL, 0, none⟩) 1 1)
 clear b
 obtain ⟨a6, D, i, b⟩ := U
 rw [D]
 clear D
 have I := Z.out
 replace M := M.f1 i (by omega)
 replace o := o.p1 i (by omega)
 replace e := e.b1 i (by omega)
 replace j := j.b1 i (by omega)
 replace z := z.b1 i (by omega)
 replace QK := QK.q1 i (fun k hk => by omega)
 clear I
 replace Z := Z.k i
 clear i
 clear c l m G s
 have c := b.e6
 have l := e.c3
 have m := j.c6
 have G := z.c6
 have s : p ≠ y ∧ y ≠ p ∧ p ≠ u ∧ u ≠ p ∧ p ≠ V ∧ V ≠ p := (by have I := Z.out; omega)
 refine bodyPost_ret (results_c rfl _ _ p 36 _ (0, 0) _ rfl b.out hu36 rfl rfl) rfl ?_
 exact ⟨_, rfl, ⟨_, _, rfl, Kd.Q_nil _ _ _ _ _, Q_mono' QK.out (fun k h1 _ => h1.1)⟩, o.out, M.out⟩
theorem tree_message.poor {B pb : Nat} {t : S28} {l1 : List S28} {d : Int} (w : World) (h : PS B w pb (t :: l1) d) (c1 : (t.f0 == 1) = false) (c3 : (t.f0 == 3) = false) (c2 : (t.f0 == 2) = false) :
  Calls Try.prog 70 #[.pointer (some ⟨pb, 0, none⟩)] w (Ans (.error (t.f2, 20)) B pb d w (fun x v w' => NV (fun q => w.heap.size ≤ q) w' x v)) := by
 have hu64 := Try.underlying64
 have hu36 := Try.underlying36
 have D := Aside0.mk (Fr.refl (fun k => k = pb) w)
 have e := Aside0.mk h
 have Z := Aside0.mk (And.intro e.out.1 (And.intro e.out.2.1 (Nat.le_refl w.heap.size)))
 clear h
 go_enter Try.func70, Try.ntmps70
 go_wp2_with (first
  | ((with_reducible refine gate_dst (N := 2) rfl ?_); apply boxE 2 #[.int .i64 0, .string ⟨#[]⟩, .int .i64 0, .int .i64 0, .slice none 0 0, .slice none 0 0] 36; intro o C c l p; replace D := D.f0 l; replace e := e.p0 l; replace Z := Z.a p; clear p l; have b := c.e6; clear b; have b := c.e6; obtain ⟨X, E, U⟩ := e.out.blk_; have i := Aside0.mk U; clear U; clear b; have b := c.e6; have n := i.c2; have r : o ≠ pb ∧ pb ≠ o := (by have V := Z.out; omega); obtain ⟨G, I, s, u, y⟩ := e.out.cells_ i.out; have J : (0 : Int) < ((t :: l1).length : Int) := (by simp only [List.length_cons]; omega))
  | ((with_reducible refine gate_dst (N := 3) rfl ?_); apply boxE 3 #[.int .i64 0, .string ⟨#[]⟩, .int .i64 0] 64; intro A F j l p; replace D := D.f0 l; replace e := e.p0 l; replace c := c.b0 l; replace i := i.b0 l; replace Z := Z.a p; clear p l; clear b n r s u y J G I; have b := c.e6; have n := i.c2; have m := j.e3; have r : A ≠ o ∧ o ≠ A ∧ A ≠ pb ∧ pb ≠ A ∧ o ≠ pb ∧ pb ≠ o := (by have V := Z.out; omega); obtain ⟨G, I, s, u, y⟩ := e.out.cells_ i.out; have J : (0 : Int) < ((t :: l1).length : Int) := (by simp only [List.length_cons]; omega))
  | ((with_reducible refine gate_dst (N := 4) rfl ?_); have Y := j.s3 (.int .i64 t.f0) (.string t.f1) (.int .i64 t.f2); clear j; obtain ⟨H, M, l, j⟩ := Y; rw [M]; clear M; have V := Z.out; replace D := D.f1 l (by omega); replace e := e.p1 l (by omega); replace c := c.b1 l (by omega); replace i := i.b1 l (by omega); clear V; replace Z := Z.k l; clear l; clear b n m r s u y J G I; have b := c.e6; have n := i.c2; have m := j.c3; have r : o ≠ pb ∧ pb ≠ o ∧ o ≠ A ∧ A ≠ o := (by have V := Z.out; omega); obtain ⟨G, I, s, u, y⟩ := e.out.cells_ i.out; have J : (0 : Int) < ((t :: l1).length : Int) := (by simp only [List.length_cons]; omega); clear i; apply boxE 4 #[.int .i64 0, .string ⟨#[]⟩, .int .i64 0, .int .i64 0, .slice none 0 0, .slice none 0 0] 36; intro W K z l p; replace D := D.f0 l; replace e := e.p0 l; replace c := c.b0 l; replace j := j.b0 l; replace Z := Z.a p; clear p l; clear b n m r s u y J G I; have b := c.e6; have m := j.c3; have O := z.e6; have r : W ≠ o ∧ o ≠ W ∧ W ≠ A ∧ A ≠ W ∧ o ≠ A ∧ A ≠ o := (by have V := Z.out; omega))
  | ((with_reducible refine gate_dst (N := 21) rfl ?_); (try (refine gate_guard (by rfl) ?_; dsimp only)); have Y := z.s6 (.int .i64 9) (.string ⟨#[]⟩) (.int .i64 t.f2) (.int .i64 0) (.slice none 0 0) (.slice none 0 0); clear z; obtain ⟨L, M, l, z⟩ := Y; rw [M]; clear M; have V := Z.out; replace D := D.f1 l (by omega); replace e := e.p1 l (by omega); replace c := c.b1 l (by omega); replace j := j.b1 l (by omega); clear V; replace Z := Z.k l; clear l; clear b m O r; have b := c.e6; have m := j.c3; have O := z.e6; have r : W ≠ o ∧ o ≠ W ∧ W ≠ A ∧ A ≠ W ∧ o ≠ A ∧ A ≠ o := (by have V := Z.out; omega); apply badE 21 20 e))
 exact ⟨rfl, rfl, D.out⟩
theorem tree_message.keys {k : Nat} (ihb : ∀ j, j ≤ k → CB 75 SP.binary j) (hk : k ≤ 1073741824) {r : Except (Int × Int) (SP.Nd × List S28)} {B pb : Nat} {t : S28} {l1 : List S28} {d : Int} (w : World) (h : PS B w pb (t :: l1) d) (c1 : (t.f0 == 1) = false) (c3 : (t.f0 == 3) = false) (c2 : (t.f0 == 2) = true) (hr : SP.bind (SP.keys k d (t :: l1) SP.E []) (fun tk l2 => SP.ret (SP.Nd.mk 9 tk.1 t.f2 0 [] tk.2) l2) = some r) :
  Calls Try.prog 70 #[.pointer (some ⟨pb, 0, none⟩)] w (Ans r B pb d w (fun x v w' => NV (fun q => w.heap.size ≤ q) w' x v)) := by
 have hu64 := Try.underlying64
 have hu36 := Try.underlying36
 have D := Aside0.mk (Fr.refl (fun k => k = pb) w)
 have l := Aside0.mk h
 have Z := Aside0.mk (And.intro l.out.1 (And.intro l.out.2.1 (Nat.le_refl w.heap.size)))
 clear h
 go_enter Try.func70, Try.ntmps70
 go_wp2_with (first
  | ((with_reducible refine gate_dst (N := 2) rfl ?_); apply boxE 2 #[.int .i64 0, .string ⟨#[]⟩, .int .i64 0, .int .i64 0, .slice none 0 0, .slice none 0 0] 36; intro s v1 b i O; replace D := D.f0 i; replace l := l.p0 i; replace Z := Z.a O; clear O i; have e := b.e6; clear e; have e := b.e6; obtain ⟨d2, cP, a7⟩ := l.out.blk_; have I := Aside0.mk a7; clear a7; clear e; have e := b.e6; have Y := I.c2; have G : s ≠ pb ∧ pb ≠ s := (by have M := Z.out; omega); obtain ⟨a2, a3, C, F, L⟩ := l.out.cells_ I.out; have a4 : (0 : Int) < ((t :: l1).length : Int) := (by simp only [List.length_cons]; omega))
  | ((with_reducible refine gate_dst (N := 3) rfl ?_); apply boxE 3 #[.int .i64 0, .string ⟨#[]⟩, .int .i64 0] 64; intro g3 v2 A i O; replace D := D.f0 i; replace l := l.p0 i; replace b := b.b0 i; replace I := I.b0 i; replace Z := Z.a O; clear O i; clear e Y G C F L a4 a2 a3; have e := b.e6; have Y := I.c2; have U := A.e3; have G : g3 ≠ s ∧ s ≠ g3 ∧ g3 ≠ pb ∧ pb ≠ g3 ∧ s ≠ pb ∧ pb ≠ s := (by have M := Z.out; omega); obtain ⟨a2, a3, C, F, L⟩ := l.out.cells_ I.out; have a4 : (0 : Int) < ((t :: l1).length : Int) := (by simp only [List.length_cons]; omega))
  | ((with_reducible refine gate_dst (N := 4) rfl ?_); have X := A.s3 (.int .i64 t.f0) (.string t.f1) (.int .i64 t.f2); clear A; obtain ⟨v3, o, i, A⟩ := X; rw [o]; clear o; have M := Z.out; replace D := D.f1 i (by omega); replace l := l.p1 i (by omega); replace b := b.b1 i (by omega); replace I := I.b1 i (by omega); clear M; replace Z := Z.k i; clear i; clear e Y U G C F L a4 a2 a3; have e := b.e6; have Y := I.c2; have U := A.c3; have G : s ≠ pb ∧ pb ≠ s ∧ s ≠ g3 ∧ g3 ≠ s := (by have M := Z.out; omega); obtain ⟨a2, a3, C, F, L⟩ := l.out.cells_ I.out; have a4 : (0 : Int) < ((t :: l1).length : Int) := (by simp only [List.length_cons]; omega); clear I; apply boxE 4 #[.int .i64 0, .string ⟨#[]⟩, .int .i64 0, .int .i64 0, .slice none 0 0, .slice none 0 0] 36; intro y v4 c i O; replace D := D.f0 i; replace l := l.p0 i; replace b := b.b0 i; replace A := A.b0 i; replace Z := Z.a O; clear O i; clear e Y U G C F L a4 a2 a3; have e := b.e6; have U := A.c3; have m := c.e6; have G : y ≠ s ∧ s ≠ y ∧ y ≠ g3 ∧ g3 ≠ y ∧ s ≠ g3 ∧ g3 ≠ s := (by have M := Z.out; omega)))
 have X := c.s6 (.int .i64 9) (.string ⟨#[]⟩) (.int .i64 t.f2) (.int .i64 0) (.slice none 0 0) (.slice none 0 0)
 clear c
 obtain ⟨v5, o, i, c⟩ := X
 rw [o]
 clear o
 have M := Z.out
 replace D := D.f1 i (by omega)
 replace l := l.p1 i (by omega)
 replace b := b.b1 i (by omega)
 replace A := A.b1 i (by omega)
 clear M
 replace Z := Z.k i
 clear i
 clear e U m G
 have e := b.e6
 have U := A.c3
 have m := c.e6
 have G : y ≠ s ∧ s ≠ y ∧ y ≠ g3 ∧ g3 ≠ y ∧ s ≠ g3 ∧ g3 ≠ s := (by have M := Z.out; omega)
 go_loopg [] k (fun kq w' => ∃ (l' : List S28) (tx : ByteArray) (ks : List SP.Nd), Aside0 (SP.bind (SP.keys kq d l' tx ks) (fun tk l2 => SP.ret (SP.Nd.mk 9 tk.1 t.f2 0 [] tk.2) l2) = some r) ∧ Aside0 (PS B w' pb l' d) ∧ Aside0 (w'.heap[s]? = some (.cells #[.int .i64 0, .string ⟨#[]⟩, .int .i64 0, .int .i64 0, .slice none 0 0, .slice none 0 0] 36 (0, 0))) ∧ Aside0 (Kids y (fun k => (w.heap.size ≤ k ∧ k ≠ s ∧ k ≠ y)) (.int .i64 9) (.string tx) (.int .i64 t.f2) (.int .i64 0) (.slice none 0 0) ks w') ∧ Aside0 (Fr (fun k => k = pb) w w') ∧ Aside0 (ks.length + kq ≤ k ∧ tx.size + kq * 4096 ≤ k * 4096))
 case atStart => exact ⟨t :: l1, ⟨#[]⟩, [], ⟨hr⟩, l, b, ⟨_, _, c.out, Kd.Q_nil _ _ _ _ _⟩, D, ⟨by have e0_ : (⟨#[]⟩ : ByteArray).size = 0 := rfl; rw [e0_]; simp⟩⟩
 case round =>
  clear hr l b c D A
  obtain ⟨l', tx, ks, H, l, b, ⟨AK, cK, hK4, hQK⟩, D, HL⟩ := hrel
  have c := Aside0.mk hK4
  have V := Aside0.mk hQK
  have Z0 := Aside0.mk (show pb < B ∧ B ≤ w.heap.size ∧ w.heap.size ≤ s ∧ w.heap.size ≤ y ∧ s ≠ y from by have M := Z.out; omega)
  replace Z := Aside0.mk (And.intro D.out.size (And.intro (blk_lt b.out) (And.intro (blk_lt c.out) Z0.out)))
  clear Z0 hK4 hQK
  cases gk with
  | zero => exact absurd H.out (by simp [SP.keys, SP.bind])
  | succ k1 =>
   cases l' with
   | nil => exact absurd H.out (by simp [SP.keys, SP.top, SP.bind])
   | cons u l1 =>
    by_cases h2 : u.f0 = 2
    ·have c9 : (u.f0 == 2) = true := by simp [h2]
     have H2 := H.out
     simp only [SP.keys, SP.top, h2, if_true, bind_assoc] at H2
     replace H := Aside0.mk H2
     clear H2 h2
     obtain ⟨r1, he⟩ : ∃ r1, SP.binary k1 d (SP.tl (u :: l1)) = some r1 := by
      cases he : SP.binary k1 d (SP.tl (u :: l1)) with
      | none => exact absurd H.out (by rw [he]; simp [SP.bind])
      | some r1 => exact ⟨r1, rfl⟩
     have H2 := H.out
     rw [he] at H2
     replace H := Aside0.mk H2
     replace he := Aside0.mk he
     clear H2
     have hut := Aside0.mk l.out.text
     have e := b.c6
     have m := c.c6
     go_wp2_with (first
      | ((with_reducible refine gate_dst (N := 45) rfl ?_); (try (refine gate_guard (by rfl) ?_; dsimp only)); apply kindE 45 l))
     refine start_ (n := 8) (S := fun w' => (w'.cell? ⟨y, 1, none⟩ = some (.string tx))) (ds := [7]) #[false, false, false, false, false, false, false, false] (by kernel_rfl) rfl rfl (show ((World.drew wr).cell? ⟨y, 1, none⟩ = some (.string tx)) from (blk_cell c.out 1).trans rfl) (fun a0 => ?_)
     obtain ⟨a8, o⟩ : ∃ W_, W_ = World.drew wr := ⟨_, rfl⟩
     rw [← o] at a0 ⊢
     have i : Fr (fun _ => False) wr a8 := (by rw [o]; exact (Fr.refl _ _).drew)
     replace D := D.f0 i
     replace l := l.p0 i
     replace b := b.b0 i
     replace c := c.b0 i
     replace V := V.q0 i
     replace Z := Z.k i
     clear i o
     clear e m
     apply puA 0 47
     apply puA 2 49
     apply tkA 1 48 a0
     apply oN 3 (some 50); intro K hK
     refine goesR_ Try.func23 (by kernel_rfl) rfl #[.pointer (some ⟨pb, 0, none⟩)] (by rfl) rfl rfl (by (try simp only [List.map_toArray, List.map_cons, List.map_nil]); first | done | rfl) ?_
     refine (tree_take.calls _ l.out).mono ?_
     rintro e_ b5 ⟨rfl, P, i⟩
     refine Or.inl ⟨_, rfl, ?_⟩
     replace l := Aside0.mk P
     have M := Z.out
     replace D := D.f1 i (by omega)
     replace b := b.b1 i (by omega)
     replace c := c.b1 i (by omega)
     replace V := V.q1 i (fun k hk => by omega)
     clear M
     replace Z := Z.k i
     clear P i
     refine hK.out _ _ (show (b5.cell? ⟨y, 1, none⟩ = some (.string tx)) from (blk_cell c.out 1).trans rfl) (fun a0 => ?_)
     clear hK K
     apply nmA 50
     apply puA 4 51
     have hsz : ¬ 9223372036854775807 < tx.size + u.f1.size := by have := HL.out; have := hut.out; omega
     apply puA 5 52
     apply puA 6 53
     apply la 7 none; intro K hK
     have c0 := c.z
     have c4 := c.c6
     have X := c.st 1 (.string (tx ++ u.f1)) (cs' := #[.int .i64 9, .string (tx ++ u.f1), .int .i64 t.f2, .int .i64 0, .slice none 0 0, .slice AK ks.length cK]) rfl
     clear c
     obtain ⟨Q, o, i, c⟩ := X
     refine skip_ (w1 := Q) (by rfl) rfl ?_ ?_
     ·rw [← o]
      clear o
      go_simp
      (try rfl)
     have M := Z.out
     replace D := D.f1 i (by omega)
     replace l := l.p1 i (by omega)
     replace b := b.b1 i (by omega)
     replace V := V.q1 i (fun k hk => by omega)
     clear M
     replace Z := Z.k i
     clear c0 c4 o i
     refine hK.out _ _ ?_
     clear hK K
     refine done_ (by kernel_rfl) ?_
     replace V := Aside0.mk (Q_mono' (T := fun k => ((w.heap.size ≤ k ∧ k ≠ s ∧ k ≠ y) ∧ k < Q.heap.size)) V.out (fun k b3 c5 => ⟨b3, c5⟩))
     have HM := Aside0.mk (fun k hk => Kd.Q_lt V.out k hk)
     have e := b.c6
     have m := c.c6
     go_wp2_with (first
      | ((with_reducible refine gate_dst (N := 56) rfl ?_); (try (refine gate_guard (by rfl) ?_; dsimp only)); apply goE 56 Try.func75 (ihb _ (by have := HL.out; omega) _ _ _ _ _ _ he.out l.out); rintro e_ a9 b6; rcases r1 with x_ | ⟨x, l2⟩; (obtain ⟨rfl, i⟩ := b6; obtain rfl : r = Except.error x_ := (Option.some.inj H.out).symm; exact Or.inr ⟨_, rfl, rfl, rfl, D.out.then_ i (fun k hk => .inl hk)⟩); obtain ⟨v_, rfl, ⟨u_, rfl, nva, kva, rfl, a1⟩, P, i⟩ := b6; refine Or.inl ⟨_, rfl, ?_⟩; obtain ⟨Ana, cna, rfl, _⟩ := Kd.Q_slice a1.1; obtain ⟨Aka, cka, rfl, _⟩ := Kd.Q_slice a1.2; replace l := Aside0.mk P; have M := Z.out; replace D := D.f1 i (by omega); replace b := b.b1 i (by omega); replace c := c.b1 i (by omega); replace V := V.q1 i (fun k hk => by omega); clear M; replace Z := Z.k i; have R := Aside0.mk (a1.mono (T := fun k => (Q.heap.size ≤ k ∧ k < a9.heap.size)) (fun k h1 h2 => ⟨h1, h2⟩)); clear P a1 i; clear e m; have e := b.c6; have m := c.c6)
      | ((with_reducible refine gate_dst (N := 7) rfl ?_); apply boxE 7 #[.int .i64 0, .string ⟨#[]⟩, .int .i64 0, .int .i64 0, .slice none 0 0, .slice none 0 0] 36; intro g7 c7 p i O; replace D := D.f0 i; replace l := l.p0 i; replace b := b.b0 i; replace c := c.b0 i; replace V := V.q0 i; replace R := R.n0 i; replace Z := Z.a O; clear O i; clear e m; have e := b.c6; have m := c.c6; have J := p.e6; have G : g7 ≠ s ∧ s ≠ g7 ∧ g7 ≠ y ∧ y ≠ g7 := (by have M := Z.out; omega))
      | ((with_reducible refine gate_dst (N := 62) rfl ?_); have X := p.s6 (.int .i64 x.1.kind) (.string x.1.text) (.int .i64 x.1.place) (.int .i64 x.1.n) (.slice Ana x.1.names.length cna) (.slice Aka x.1.kids.length cka); clear p; obtain ⟨c8, o, i, p⟩ := X; rw [o]; clear o; have M := Z.out; replace D := D.f1 i (by omega); replace l := l.p1 i (by omega); replace b := b.b1 i (by omega); replace c := c.b1 i (by omega); replace V := V.q1 i (fun k hk => by omega); replace R := R.n1 i (fun k hk => by omega); clear M; replace Z := Z.k i; clear i; clear e m J G; have e := b.c6; have m := c.c6; have J := p.c6; apply litE 62 #[.int .i64 x.1.kind, .string x.1.text, .int .i64 x.1.place, .int .i64 x.1.n, .slice Ana x.1.names.length cna, .slice Aka x.1.kids.length cka] 36 1; intro bV b7 a5 i O; replace D := D.f0 i; replace l := l.p0 i; replace b := b.b0 i; replace c := c.b0 i; replace V := V.q0 i; replace R := R.n0 i; replace p := p.b0 i; replace Z := Z.a O; clear O i; clear e m J; have e := b.c6; have m := c.e6; have J := p.c6; have b4 := a5.c6; have G : y ≠ s ∧ s ≠ y ∧ y ≠ g7 ∧ g7 ≠ y ∧ y ≠ bV ∧ bV ≠ y := (by have M := Z.out; omega))
      | ((with_reducible refine gate_dst (N := 63) rfl ?_); (try (refine gate_guard (by rfl) ?_; dsimp only)); obtain ⟨AP, b8, d0, d3, a6, b2, i, b9⟩ := kid_push (W := b7) 34 Q.heap.size (HM.out) (Q_mono' V.out (fun k b3 _ => b3.1)) R.out (fun k (hk : (Q.heap.size ≤ k ∧ k < a9.heap.size)) => (show ((w.heap.size ≤ k ∧ k ≠ s ∧ k ≠ y)) ∧ (∀ j, Value.ownBlock (Value.slice AK ks.length cK) = some j → k ≠ j) from ⟨by have M := Z.out; omega, fun j hj => by have M := Z.out; have := HM.out j hj; omega⟩)) (fun k hk => (show (w.heap.size ≤ k ∧ k ≠ s ∧ k ≠ y) from by have M := Z.out; omega)) (show (w.heap.size ≤ bV ∧ bV ≠ s ∧ bV ≠ y) from by have M := Z.out; omega) a5.out (by have := HL.out; omega); refine appendL_ (some 63) rfl rfl (.tmp 60) (.tmp 62) rfl rfl rfl a6 ?_; replace Z := Aside0.mk (And.intro (b9) Z.out); clear b9 a6 a5 V R HM; clear b4; have M := Z.out; replace D := D.f1 i (by omega); replace l := l.p1 i (by omega); replace b := b.b1 i (by omega); replace c := c.b1 i (by omega); replace p := p.b1 i (by omega); clear M; replace Z := Z.k i; clear i; have V := Aside0.mk b2; clear b2; clear e m J G; have e := b.c6; have m := c.e6; have J := p.c6; have G : y ≠ s ∧ s ≠ y ∧ y ≠ g7 ∧ g7 ≠ y := (by have M := Z.out; omega)))
     have X := c.st 5 (.slice AP (ks.length + 1) b8) (cs' := #[.int .i64 9, .string (tx ++ u.f1), .int .i64 t.f2, .int .i64 0, .slice none 0 0, .slice AP (ks.length + 1) b8]) rfl
     clear c
     obtain ⟨d1, o, i, c⟩ := X
     rw [o]
     clear o
     have M := Z.out
     replace D := D.f1 i (by omega)
     replace l := l.p1 i (by omega)
     replace b := b.b1 i (by omega)
     replace p := p.b1 i (by omega)
     replace V := V.q1 i (fun k hk => by omega)
     clear M
     replace Z := Z.k i
     clear i
     clear e m J G
     have e := b.c6
     have m := c.e6
     have J := p.c6
     have G : y ≠ s ∧ s ≠ y ∧ y ≠ g7 ∧ g7 ≠ y := (by have M := Z.out; omega)
     go_roundg k1
     case measure => omega
     case rel =>
      have e_ : (ks ++ [x.1]).length = ks.length + 1 := by simp
      exact ⟨l2, tx ++ u.f1, ks ++ [x.1], H, l, b, ⟨_, _, by rw [e_]; exact c.out, by rw [e_]; exact V.out⟩, D, ⟨by rw [e_, ByteArray.size_append]; have := HL.out; have := hut.out; omega⟩⟩
    ·have c9 : (u.f0 == 2) = false := by simp [h2]
     have H2 := H.out
     simp only [SP.keys, SP.top, h2, if_false, SP.ret, SP.bind, Option.some.injEq] at H2
     subst H2
     clear H h2
     have e := b.e6
     have m := c.c6
     have G : s ≠ y ∧ y ≠ s := (by have M := Z.out; omega)
     go_wp2_with (first
      | ((with_reducible refine gate_dst (N := 45) rfl ?_); (try (refine gate_guard (by rfl) ?_; dsimp only)); apply kindE 45 l))
     have X := b.s6 (.int .i64 9) (.string tx) (.int .i64 t.f2) (.int .i64 0) (.slice none 0 0) (.slice AK ks.length cK)
     clear b
     obtain ⟨a8, o, i, b⟩ := X
     rw [o]
     clear o
     have M := Z.out
     replace D := D.f1 i (by omega)
     replace l := l.p1 i (by omega)
     replace c := c.b1 i (by omega)
     replace V := V.q1 i (fun k hk => by omega)
     clear M
     replace Z := Z.k i
     clear i
     clear e m G
     have e := b.e6
     have m := c.c6
     have G : s ≠ y ∧ y ≠ s := (by have M := Z.out; omega)
     refine bodyPost_ret (results_c rfl _ _ s 36 _ (0, 0) _ rfl b.out hu36 rfl rfl) rfl ?_
     exact ⟨_, rfl, ⟨_, _, rfl, Kd.Q_nil _ _ _ _ _, Q_mono' V.out (fun k h1 _ => h1.1)⟩, l.out, D.out⟩
theorem tree_message.step {k : Nat} (ihu : CB 76 SP.unary k) (ihb : ∀ j, j ≤ k → CB 75 SP.binary j) (hk : k ≤ 1073741824) : CN 70 SP.msg (k + 1) := by
 intro B pb d l r w hr h
 unfold SP.msg at hr
 cases l with
 | nil => simp [SP.top] at hr
 | cons t l =>
  simp only [SP.top] at hr
  by_cases h1 : t.f0 = 1
  ·rw [if_pos h1] at hr
   obtain rfl := Option.some.inj hr
   exact tree_message.name w h (bt_ h1)
  rw [if_neg h1] at hr
  by_cases h3 : t.f0 = 3
  ·rw [if_pos h3] at hr
   cases hx : SP.unary k d (SP.tl (t :: l)) with
   | none => rw [hx] at hr; simp [SP.bind] at hr
   | some r1 =>
    rw [hx] at hr
    exact tree_message.sign ihu w h (bf_ h1) (bt_ h3) hx ⟨hr⟩
  rw [if_neg h3] at hr
  by_cases h2 : t.f0 = 2
  ·rw [if_pos h2] at hr
   exact tree_message.keys ihb hk w h (bf_ h1) (bf_ h3) (bt_ h2) hr
  ·rw [if_neg h2] at hr
   simp only [SP.bad, SP.top, Option.some.injEq] at hr
   subst hr
   exact tree_message.poor w h (bf_ h1) (bf_ h3) (bf_ h2)
end Go.Proofs.Ytpodpmjlkbbkoaa.P
