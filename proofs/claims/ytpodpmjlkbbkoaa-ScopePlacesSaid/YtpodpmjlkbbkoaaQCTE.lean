import Derived.Test.YtpodpmjlkbbkoaaQCTA
set_option linter.all false
set_option maxHeartbeats 16000000
set_option maxRecDepth 100000
namespace Go.Proofs.Ytpodpmjlkbbkoaa.P
open Go.RowKit Go.Proofs.YtpodpmjlkbbkoaaW.PrintWords Go.Proofs.YtpodpmjlkbbkoaaW.PrintLast Go.Proofs.YtpodpmjlkbbkoaaW.PrintMore
variable [Low]
def CN (f : FuncId) (sp : Nat → Int → List S28 → SP.PR SP.Nd) (k : Nat) : Prop := ∀ (B pb : Nat) (d : Int) (l : List S28) (r : Except (Int × Int) (SP.Nd × List S28)) (w : World), sp k d l = some r → PS B w pb l d →
 Calls Try.prog f #[.pointer (some ⟨pb, 0, none⟩)] w (Ans r B pb d w (fun x v w' => NV (fun q => w.heap.size ≤ q) w' x v))
def CB (f : FuncId) (sp : Nat → Int → List S28 → SP.PR (SP.Nd × Bool)) (k : Nat) : Prop := ∀ (B pb : Nat) (d : Int) (l : List S28) (r : Except (Int × Int) ((SP.Nd × Bool) × List S28)) (w : World), sp k d l = some r → PS B w pb l d →
 Calls Try.prog f #[.pointer (some ⟨pb, 0, none⟩)] w (Ans r B pb d w (fun x v w' => ∃ u, v = .tuple #[u, .bool x.2] ∧ NV (fun q => w.heap.size ≤ q) w' x.1 u))
theorem tree_element.sym {B pb : Nat} {t : S28} {l : List S28} {d : Int} (w : World) (h : PS B w pb (t :: l) d) (h17 : (t.f0 == 17) = false) (h8 : (t.f0 == 8) = false) (h4 : (t.f0 == 4) = false) (h5 : (t.f0 == 5) = false) (hc_ : ((t.f0 == 1) = true ∧ (t.f1.toList == [116, 114, 117, 101]) = false ∧ (t.f1.toList == [102, 97, 108, 115, 101]) = false ∧ (t.f1.toList == [110, 105, 108]) = false) ∨ ((t.f0 == 1) = false ∧ (t.f0 == 6) = true) ∨ ((t.f0 == 1) = false ∧ (t.f0 == 6) = false ∧ (t.f0 == 2) = true) ∨ ((t.f0 == 1) = false ∧ (t.f0 == 6) = false ∧ (t.f0 == 2) = false ∧ (t.f0 == 3) = true)) : Calls Try.prog 86 #[.pointer (some ⟨pb, 0, none⟩)] w (Ans (.ok (.mk 3 t.f1 t.f2 0 [] [], SP.tl (t :: l))) B pb d w (fun x v w' => NV (fun q => w.heap.size ≤ q) w' x v)) := by
 rcases hc_ with ⟨h1, s0, s1, s2⟩ | ⟨h1, h6⟩ | ⟨h1, h6, h2⟩ | ⟨h1, h6, h2, h3⟩
 all_goals (
  have hu64 := Try.underlying64
  have hu36 := Try.underlying36
  have M := Aside0.mk (Fr.refl (fun k => k = pb) w)
  have i := Aside0.mk h
  have Z := Aside0.mk (And.intro i.out.1 (And.intro i.out.2.1 (Nat.le_refl w.heap.size)))
  clear h
  go_enter Try.func86, Try.ntmps86
  go_wp2_with (first
   | ((with_reducible refine gate_dst (N := 2) rfl ?_); apply boxE 2 #[.int .i64 0, .string ⟨#[]⟩, .int .i64 0, .int .i64 0, .slice none 0 0, .slice none 0 0] 36; intro p F b j z; replace M := M.f0 j; replace i := i.p0 j; replace Z := Z.a z; clear z j; have c := b.e6; clear c; have c := b.e6; obtain ⟨E, H, X⟩ := i.out.blk_; have n := Aside0.mk X; clear X; clear c; have c := b.e6; have u := n.c2; have s : p ≠ pb ∧ pb ≠ p := (by have O := Z.out; omega); obtain ⟨U, V, A, D, G⟩ := i.out.cells_ n.out; have W : (0 : Int) < ((t :: l).length : Int) := (by simp only [List.length_cons]; omega))
   | ((with_reducible refine gate_dst (N := 3) rfl ?_); apply boxE 3 #[.int .i64 0, .string ⟨#[]⟩, .int .i64 0] 64; intro y K e j z; replace M := M.f0 j; replace i := i.p0 j; replace b := b.b0 j; replace n := n.b0 j; replace Z := Z.a z; clear z j; clear c u s A D G W U V; have c := b.e6; have u := n.c2; have m := e.e3; have s : y ≠ p ∧ p ≠ y ∧ y ≠ pb ∧ pb ≠ y ∧ p ≠ pb ∧ pb ≠ p := (by have O := Z.out; omega); obtain ⟨U, V, A, D, G⟩ := i.out.cells_ n.out; have W : (0 : Int) < ((t :: l).length : Int) := (by simp only [List.length_cons]; omega))
   | ((with_reducible refine gate_dst (N := 4) rfl ?_); have Y := e.s3 (.int .i64 t.f0) (.string t.f1) (.int .i64 t.f2); clear e; obtain ⟨L, I, j, e⟩ := Y; rw [I]; clear I; have O := Z.out; replace M := M.f1 j (by omega); replace i := i.p1 j (by omega); replace b := b.b1 j (by omega); replace n := n.b1 j (by omega); clear O; replace Z := Z.k j; clear j; clear c u m s A D G W U V; have c := b.e6; have u := n.c2; have m := e.c3; have s : p ≠ pb ∧ pb ≠ p ∧ p ≠ y ∧ y ≠ p := (by have O := Z.out; omega); obtain ⟨U, V, A, D, G⟩ := i.out.cells_ n.out; have W : (0 : Int) < ((t :: l).length : Int) := (by simp only [List.length_cons]; omega); clear n; apply boxE 4 #[.int .i64 0, .string ⟨#[]⟩, .int .i64 0, .int .i64 0, .slice none 0 0, .slice none 0 0] 36; intro J P o j z; replace M := M.f0 j; replace i := i.p0 j; replace b := b.b0 j; replace e := e.b0 j; replace Z := Z.a z; clear z j; clear c u m s A D G W U V; have c := b.e6; have m := e.c3; have r := o.e6; have s : J ≠ p ∧ p ≠ J ∧ J ≠ y ∧ y ≠ J ∧ p ≠ y ∧ y ≠ p := (by have O := Z.out; omega))
   | ((with_reducible refine gate_dst (N := 52) rfl ?_); have Y := o.s6 (.int .i64 3) (.string t.f1) (.int .i64 t.f2) (.int .i64 0) (.slice none 0 0) (.slice none 0 0); clear o; obtain ⟨Q, I, j, o⟩ := Y; rw [I]; clear I; have O := Z.out; replace M := M.f1 j (by omega); replace i := i.p1 j (by omega); replace b := b.b1 j (by omega); replace e := e.b1 j (by omega); clear O; replace Z := Z.k j; clear j; clear c m r s; have c := b.e6; have m := e.c3; have r := o.e6; have s : J ≠ p ∧ p ≠ J ∧ J ≠ y ∧ y ≠ J ∧ p ≠ y ∧ y ≠ p := (by have O := Z.out; omega); apply takeE 52 i; intro R C j; replace i := Aside0.mk C; clear C; have O := Z.out; replace M := M.f1 j (by omega); replace b := b.b1 j (by omega); replace e := e.b1 j (by omega); replace o := o.b1 j (by omega); clear O; replace Z := Z.k j; clear j; clear c m r s; have c := b.e6; have m := e.c3; have r := o.e6; have s : J ≠ p ∧ p ≠ J ∧ J ≠ y ∧ y ≠ J ∧ p ≠ y ∧ y ≠ p := (by have O := Z.out; omega)))
  have Y := b.s6 (.int .i64 3) (.string t.f1) (.int .i64 t.f2) (.int .i64 0) (.slice none 0 0) (.slice none 0 0)
  clear b
  obtain ⟨S, I, j, b⟩ := Y
  rw [I]
  clear I
  have O := Z.out
  replace M := M.f1 j (by omega)
  replace i := i.p1 j (by omega)
  replace e := e.b1 j (by omega)
  replace o := o.b1 j (by omega)
  clear O
  replace Z := Z.k j
  clear j
  clear c m r s
  have c := b.e6
  have m := e.c3
  have r := o.e6
  have s : J ≠ p ∧ p ≠ J ∧ J ≠ y ∧ y ≠ J ∧ p ≠ y ∧ y ≠ p := (by have O := Z.out; omega)
  refine bodyPost_ret (results_c rfl _ _ p 36 _ (0, 0) _ rfl b.out hu36 rfl rfl) rfl ?_
  exact ⟨_, rfl, ⟨_, _, rfl, NQ.none_ _ _ _ _ _ _⟩, i.out, M.out⟩)
theorem tree_element.name {B pb : Nat} {t : S28} {l : List S28} {d : Int} (w : World) (h : PS B w pb (t :: l) d) (h17 : (t.f0 == 17) = false) (h8 : (t.f0 == 8) = false) (h4 : (t.f0 == 4) = false) (h5 : (t.f0 == 5) = false) (h1 : (t.f0 == 1) = true) (s0 : (t.f1.toList == [116, 114, 117, 101]) = false) (s1 : (t.f1.toList == [102, 97, 108, 115, 101]) = false) (s2 : (t.f1.toList == [110, 105, 108]) = false) : Calls Try.prog 86 #[.pointer (some ⟨pb, 0, none⟩)] w (Ans (.ok (.mk 3 t.f1 t.f2 0 [] [], SP.tl (t :: l))) B pb d w (fun x v w' => NV (fun q => w.heap.size ≤ q) w' x v)) := tree_element.sym w h h17 h8 h4 h5 (Or.inl ⟨h1, s0, s1, s2⟩)
theorem tree_element.sym6 {B pb : Nat} {t : S28} {l : List S28} {d : Int} (w : World) (h : PS B w pb (t :: l) d) (h17 : (t.f0 == 17) = false) (h8 : (t.f0 == 8) = false) (h4 : (t.f0 == 4) = false) (h5 : (t.f0 == 5) = false) (h1 : (t.f0 == 1) = false) (h6 : (t.f0 == 6) = true) : Calls Try.prog 86 #[.pointer (some ⟨pb, 0, none⟩)] w (Ans (.ok (.mk 3 t.f1 t.f2 0 [] [], SP.tl (t :: l))) B pb d w (fun x v w' => NV (fun q => w.heap.size ≤ q) w' x v)) := tree_element.sym w h h17 h8 h4 h5 (Or.inr (Or.inl ⟨h1, h6⟩))
theorem tree_element.sym2 {B pb : Nat} {t : S28} {l : List S28} {d : Int} (w : World) (h : PS B w pb (t :: l) d) (h17 : (t.f0 == 17) = false) (h8 : (t.f0 == 8) = false) (h4 : (t.f0 == 4) = false) (h5 : (t.f0 == 5) = false) (h1 : (t.f0 == 1) = false) (h6 : (t.f0 == 6) = false) (h2 : (t.f0 == 2) = true) : Calls Try.prog 86 #[.pointer (some ⟨pb, 0, none⟩)] w (Ans (.ok (.mk 3 t.f1 t.f2 0 [] [], SP.tl (t :: l))) B pb d w (fun x v w' => NV (fun q => w.heap.size ≤ q) w' x v)) := tree_element.sym w h h17 h8 h4 h5 (Or.inr (Or.inr (Or.inl ⟨h1, h6, h2⟩)))
theorem tree_element.sym3 {B pb : Nat} {t : S28} {l : List S28} {d : Int} (w : World) (h : PS B w pb (t :: l) d) (h17 : (t.f0 == 17) = false) (h8 : (t.f0 == 8) = false) (h4 : (t.f0 == 4) = false) (h5 : (t.f0 == 5) = false) (h1 : (t.f0 == 1) = false) (h6 : (t.f0 == 6) = false) (h2 : (t.f0 == 2) = false) (h3 : (t.f0 == 3) = true) : Calls Try.prog 86 #[.pointer (some ⟨pb, 0, none⟩)] w (Ans (.ok (.mk 3 t.f1 t.f2 0 [] [], SP.tl (t :: l))) B pb d w (fun x v w' => NV (fun q => w.heap.size ≤ q) w' x v)) := tree_element.sym w h h17 h8 h4 h5 (Or.inr (Or.inr (Or.inr (⟨h1, h6, h2, h3⟩))))
theorem tree_element.sub {k : Nat} (ihl : CN 82 SP.list k) {B pb : Nat} {t : S28} {l : List S28} {d : Int} {r : Except (Int × Int) (SP.Nd × List S28)} (w : World) (h : PS B w pb (t :: l) d) (hl : SP.list k d (t :: l) = some r) (hc_ : ((t.f0 == 17) = true) ∨ ((t.f0 == 17) = false ∧ (t.f0 == 8) = true)) : Calls Try.prog 86 #[.pointer (some ⟨pb, 0, none⟩)] w (Ans r B pb d w (fun x v w' => NV (fun q => w.heap.size ≤ q) w' x v)) := by
 rcases hc_ with h17 | ⟨h17, h8⟩
 all_goals (
  have hu64 := Try.underlying64
  have hu36 := Try.underlying36
  have O := Aside0.mk (Fr.refl (fun k => k = pb) w)
  have j := Aside0.mk h
  have Z := Aside0.mk (And.intro j.out.1 (And.intro j.out.2.1 (Nat.le_refl w.heap.size)))
  clear h
  go_enter Try.func86, Try.ntmps86
  go_wp2_with (first
   | ((with_reducible refine gate_dst (N := 2) rfl ?_); apply boxE 2 #[.int .i64 0, .string ⟨#[]⟩, .int .i64 0, .int .i64 0, .slice none 0 0, .slice none 0 0] 36; intro s S b i D; replace O := O.f0 i; replace j := j.p0 i; replace Z := Z.a D; clear D i; have c := b.e6; clear c; have c := b.e6; obtain ⟨P, cP, F⟩ := j.out.blk_; have o := Aside0.mk F; clear F; clear c; have c := b.e6; have z := o.c2; have y : s ≠ pb ∧ pb ≠ s := (by have V := Z.out; omega); obtain ⟨Y, X, G, I, J⟩ := j.out.cells_ o.out; have C : (0 : Int) < ((t :: l).length : Int) := (by simp only [List.length_cons]; omega))
   | ((with_reducible refine gate_dst (N := 3) rfl ?_); apply boxE 3 #[.int .i64 0, .string ⟨#[]⟩, .int .i64 0] 64; intro A v2 e i D; replace O := O.f0 i; replace j := j.p0 i; replace b := b.b0 i; replace o := o.b0 i; replace Z := Z.a D; clear D i; clear c z y G I J C Y X; have c := b.e6; have z := o.c2; have m := e.e3; have y : A ≠ s ∧ s ≠ A ∧ A ≠ pb ∧ pb ≠ A ∧ s ≠ pb ∧ pb ≠ s := (by have V := Z.out; omega); obtain ⟨Y, X, G, I, J⟩ := j.out.cells_ o.out; have C : (0 : Int) < ((t :: l).length : Int) := (by simp only [List.length_cons]; omega))
   | ((with_reducible refine gate_dst (N := 4) rfl ?_); have E := e.s3 (.int .i64 t.f0) (.string t.f1) (.int .i64 t.f2); clear e; obtain ⟨v3, M, i, e⟩ := E; rw [M]; clear M; have V := Z.out; replace O := O.f1 i (by omega); replace j := j.p1 i (by omega); replace b := b.b1 i (by omega); replace o := o.b1 i (by omega); clear V; replace Z := Z.k i; clear i; clear c z m y G I J C Y X; have c := b.e6; have z := o.c2; have m := e.c3; have y : s ≠ pb ∧ pb ≠ s ∧ s ≠ A ∧ A ≠ s := (by have V := Z.out; omega); obtain ⟨Y, X, G, I, J⟩ := j.out.cells_ o.out; have C : (0 : Int) < ((t :: l).length : Int) := (by simp only [List.length_cons]; omega); clear o; apply boxE 4 #[.int .i64 0, .string ⟨#[]⟩, .int .i64 0, .int .i64 0, .slice none 0 0, .slice none 0 0] 36; intro U v4 p i D; replace O := O.f0 i; replace j := j.p0 i; replace b := b.b0 i; replace e := e.b0 i; replace Z := Z.a D; clear D i; clear c z m y G I J C Y X; have c := b.e6; have m := e.c3; have u := p.e6; have y : U ≠ s ∧ s ≠ U ∧ U ≠ A ∧ A ≠ U ∧ s ≠ A ∧ A ≠ s := (by have V := Z.out; omega))
   | ((with_reducible refine gate_dst (N := 24) rfl ?_); (try (refine gate_guard (by rfl) ?_; dsimp only)); have E := p.s6 (.int .i64 3) (.string t.f1) (.int .i64 t.f2) (.int .i64 0) (.slice none 0 0) (.slice none 0 0); clear p; obtain ⟨Q, M, i, p⟩ := E; rw [M]; clear M; have V := Z.out; replace O := O.f1 i (by omega); replace j := j.p1 i (by omega); replace b := b.b1 i (by omega); replace e := e.b1 i (by omega); clear V; replace Z := Z.k i; clear i; clear c m u y; have c := b.e6; have m := e.c3; have u := p.e6; have y : U ≠ s ∧ s ≠ U ∧ U ≠ A ∧ A ≠ U ∧ s ≠ A ∧ A ≠ s := (by have V := Z.out; omega); apply goE 24 Try.func82 (ihl _ _ _ _ _ _ hl j.out); rintro e_ R L; rcases r with x_ | ⟨x, l2⟩; (obtain ⟨rfl, i⟩ := L; exact Or.inr ⟨_, rfl, rfl, rfl, O.out.then_ i (fun k hk => .inl hk)⟩); obtain ⟨v_, rfl, ⟨nva, kva, rfl, W⟩, H, i⟩ := L; refine Or.inl ⟨_, rfl, ?_⟩; obtain ⟨Ana, cna, rfl, _⟩ := Kd.Q_slice W.1; obtain ⟨Aka, cka, rfl, _⟩ := Kd.Q_slice W.2; replace j := Aside0.mk H; have V := Z.out; replace O := O.f1 i (by omega); replace b := b.b1 i (by omega); replace e := e.b1 i (by omega); replace p := p.b1 i (by omega); clear V; replace Z := Z.k i; have K := Aside0.mk (W.mono (T := fun k => (Q.heap.size ≤ k ∧ k < R.heap.size)) (fun k h1 h2 => ⟨h1, h2⟩)); clear H W i; clear c m u y; have c := b.e6; have m := e.c3; have u := p.e6; have y : U ≠ s ∧ s ≠ U ∧ U ≠ A ∧ A ≠ U ∧ s ≠ A ∧ A ≠ s := (by have V := Z.out; omega)))
  have E := b.s6 (.int .i64 x.kind) (.string x.text) (.int .i64 x.place) (.int .i64 x.n) (.slice Ana x.names.length cna) (.slice Aka x.kids.length cka)
  clear b
  obtain ⟨v7, M, i, b⟩ := E
  rw [M]
  clear M
  have V := Z.out
  replace O := O.f1 i (by omega)
  replace j := j.p1 i (by omega)
  replace e := e.b1 i (by omega)
  replace p := p.b1 i (by omega)
  replace K := K.n1 i (fun k hk => by omega)
  clear V
  replace Z := Z.k i
  clear i
  clear c m u y
  have c := b.e6
  have m := e.c3
  have u := p.e6
  have y : U ≠ s ∧ s ≠ U ∧ U ≠ A ∧ A ≠ U ∧ s ≠ A ∧ A ≠ s := (by have V := Z.out; omega)
  refine bodyPost_ret (results_c rfl _ _ s 36 _ (0, 0) _ rfl b.out hu36 rfl rfl) rfl ?_
  exact ⟨_, rfl, ⟨_, _, rfl, K.out.mono (fun k h1 h2 => (show w.heap.size ≤ k from by have V := Z.out; omega))⟩, j.out, O.out⟩)
theorem tree_element.list {k : Nat} (ihl : CN 82 SP.list k) {B pb : Nat} {t : S28} {l : List S28} {d : Int} {r : Except (Int × Int) (SP.Nd × List S28)} (w : World) (h : PS B w pb (t :: l) d) (h17 : (t.f0 == 17) = true) (hl : SP.list k d (t :: l) = some r) : Calls Try.prog 86 #[.pointer (some ⟨pb, 0, none⟩)] w (Ans r B pb d w (fun x v w' => NV (fun q => w.heap.size ≤ q) w' x v)) := tree_element.sub ihl w h hl (Or.inl h17)
theorem tree_element.open {k : Nat} (ihl : CN 82 SP.list k) {B pb : Nat} {t : S28} {l : List S28} {d : Int} {r : Except (Int × Int) (SP.Nd × List S28)} (w : World) (h : PS B w pb (t :: l) d) (h17 : (t.f0 == 17) = false) (h8 : (t.f0 == 8) = true) (hl : SP.list k d (t :: l) = some r) : Calls Try.prog 86 #[.pointer (some ⟨pb, 0, none⟩)] w (Ans r B pb d w (fun x v w' => NV (fun q => w.heap.size ≤ q) w' x v)) := tree_element.sub ihl w h hl (Or.inr (⟨h17, h8⟩))
theorem tree_element.leaf {kd : Int} {B pb : Nat} {t : S28} {l : List S28} {d : Int} (w : World) (h : PS B w pb (t :: l) d) (h17 : (t.f0 == 17) = false) (h8 : (t.f0 == 8) = false) (hc_ : ((t.f0 == 4) = true ∧ kd = 1) ∨ ((t.f0 == 4) = false ∧ (t.f0 == 5) = true ∧ kd = 2) ∨ ((t.f0 == 4) = false ∧ (t.f0 == 5) = false ∧ (t.f0 == 1) = true ∧ (t.f1.toList == [116, 114, 117, 101]) = true ∧ kd = 13) ∨ ((t.f0 == 4) = false ∧ (t.f0 == 5) = false ∧ (t.f0 == 1) = true ∧ (t.f1.toList == [116, 114, 117, 101]) = false ∧ (t.f1.toList == [102, 97, 108, 115, 101]) = true ∧ kd = 13) ∨ ((t.f0 == 4) = false ∧ (t.f0 == 5) = false ∧ (t.f0 == 1) = true ∧ (t.f1.toList == [116, 114, 117, 101]) = false ∧ (t.f1.toList == [102, 97, 108, 115, 101]) = false ∧ (t.f1.toList == [110, 105, 108]) = true ∧ kd = 13)) : Calls Try.prog 86 #[.pointer (some ⟨pb, 0, none⟩)] w (Ans (.ok (.mk kd t.f1 t.f2 0 [] [], SP.tl (t :: l))) B pb d w (fun x v w' => NV (fun q => w.heap.size ≤ q) w' x v)) := by
 rcases hc_ with ⟨h4, hkd_⟩ | ⟨h4, h5, hkd_⟩ | ⟨h4, h5, h1, s0, hkd_⟩ | ⟨h4, h5, h1, s0, s1, hkd_⟩ | ⟨h4, h5, h1, s0, s1, s2, hkd_⟩
 all_goals (
  rw [hkd_]
  have hu64 := Try.underlying64
  have hu36 := Try.underlying36
  have G := Aside0.mk (Fr.refl (fun k => k = pb) w)
  have m := Aside0.mk h
  have Z := Aside0.mk (And.intro m.out.1 (And.intro m.out.2.1 (Nat.le_refl w.heap.size)))
  clear h
  go_enter Try.func86, Try.ntmps86
  go_wp2_with (first
   | ((with_reducible refine gate_dst (N := 2) rfl ?_); apply boxE 2 #[.int .i64 0, .string ⟨#[]⟩, .int .i64 0, .int .i64 0, .slice none 0 0, .slice none 0 0] 36; intro r F b j I; replace G := G.f0 j; replace m := m.p0 j; replace Z := Z.a I; clear I j; have c := b.e6; clear c; have c := b.e6; obtain ⟨E, H, X⟩ := m.out.blk_; have o := Aside0.mk X; clear X; clear c; have c := b.e6; have y := o.c2; have s : r ≠ pb ∧ pb ≠ r := (by have J := Z.out; omega); obtain ⟨V, W, M, O, U⟩ := m.out.cells_ o.out; have Y : (0 : Int) < ((t :: l).length : Int) := (by simp only [List.length_cons]; omega))
   | ((with_reducible refine gate_dst (N := 3) rfl ?_); apply boxE 3 #[.int .i64 0, .string ⟨#[]⟩, .int .i64 0] 64; intro u K e j I; replace G := G.f0 j; replace m := m.p0 j; replace b := b.b0 j; replace o := o.b0 j; replace Z := Z.a I; clear I j; clear c y s M O U Y V W; have c := b.e6; have y := o.c2; have i := e.e3; have s : u ≠ r ∧ r ≠ u ∧ u ≠ pb ∧ pb ≠ u ∧ r ≠ pb ∧ pb ≠ r := (by have J := Z.out; omega); obtain ⟨V, W, M, O, U⟩ := m.out.cells_ o.out; have Y : (0 : Int) < ((t :: l).length : Int) := (by simp only [List.length_cons]; omega))
   | ((with_reducible refine gate_dst (N := 4) rfl ?_); have D := e.s3 (.int .i64 t.f0) (.string t.f1) (.int .i64 t.f2); clear e; obtain ⟨L, z, j, e⟩ := D; rw [z]; clear z; have J := Z.out; replace G := G.f1 j (by omega); replace m := m.p1 j (by omega); replace b := b.b1 j (by omega); replace o := o.b1 j (by omega); clear J; replace Z := Z.k j; clear j; clear c y i s M O U Y V W; have c := b.e6; have y := o.c2; have i := e.c3; have s : r ≠ pb ∧ pb ≠ r ∧ r ≠ u ∧ u ≠ r := (by have J := Z.out; omega); obtain ⟨V, W, M, O, U⟩ := m.out.cells_ o.out; have Y : (0 : Int) < ((t :: l).length : Int) := (by simp only [List.length_cons]; omega); clear o; apply boxE 4 #[.int .i64 0, .string ⟨#[]⟩, .int .i64 0, .int .i64 0, .slice none 0 0, .slice none 0 0] 36; intro A P n j I; replace G := G.f0 j; replace m := m.p0 j; replace b := b.b0 j; replace e := e.b0 j; replace Z := Z.a I; clear I j; clear c y i s M O U Y V W; have c := b.e6; have i := e.c3; have p := n.e6; have s : A ≠ r ∧ r ≠ A ∧ A ≠ u ∧ u ≠ A ∧ r ≠ u ∧ u ≠ r := (by have J := Z.out; omega))
   | ((with_reducible refine gate_dst (N := 52) rfl ?_); have D := n.s6 (.int .i64 3) (.string t.f1) (.int .i64 t.f2) (.int .i64 0) (.slice none 0 0) (.slice none 0 0); clear n; obtain ⟨Q, z, j, n⟩ := D; rw [z]; clear z; have J := Z.out; replace G := G.f1 j (by omega); replace m := m.p1 j (by omega); replace b := b.b1 j (by omega); replace e := e.b1 j (by omega); clear J; replace Z := Z.k j; clear j; clear c i p s; have c := b.e6; have i := e.c3; have p := n.e6; have s : A ≠ r ∧ r ≠ A ∧ A ≠ u ∧ u ≠ A ∧ r ≠ u ∧ u ≠ r := (by have J := Z.out; omega); have D := n.st 0 (.int .i64 kd) (cs' := #[.int .i64 kd, .string t.f1, .int .i64 t.f2, .int .i64 0, .slice none 0 0, .slice none 0 0]) rfl; rw [hkd_] at D; clear n; obtain ⟨R, z, j, n⟩ := D; rw [z]; clear z; have J := Z.out; replace G := G.f1 j (by omega); replace m := m.p1 j (by omega); replace b := b.b1 j (by omega); replace e := e.b1 j (by omega); clear J; replace Z := Z.k j; clear j; clear c i p s; have c := b.e6; have i := e.c3; have p := n.e6; have s : A ≠ r ∧ r ≠ A ∧ A ≠ u ∧ u ≠ A ∧ r ≠ u ∧ u ≠ r := (by have J := Z.out; omega); apply takeE 52 m; intro S C j; replace m := Aside0.mk C; clear C; have J := Z.out; replace G := G.f1 j (by omega); replace b := b.b1 j (by omega); replace e := e.b1 j (by omega); replace n := n.b1 j (by omega); clear J; replace Z := Z.k j; clear j; clear c i p s; have c := b.e6; have i := e.c3; have p := n.e6; have s : A ≠ r ∧ r ≠ A ∧ A ≠ u ∧ u ≠ A ∧ r ≠ u ∧ u ≠ r := (by have J := Z.out; omega)))
  have D := b.s6 (.int .i64 kd) (.string t.f1) (.int .i64 t.f2) (.int .i64 0) (.slice none 0 0) (.slice none 0 0)
  rw [hkd_] at D
  clear b
  obtain ⟨T, z, j, b⟩ := D
  rw [z]
  clear z
  have J := Z.out
  replace G := G.f1 j (by omega)
  replace m := m.p1 j (by omega)
  replace e := e.b1 j (by omega)
  replace n := n.b1 j (by omega)
  clear J
  replace Z := Z.k j
  clear j
  clear c i p s
  have c := b.e6
  have i := e.c3
  have p := n.e6
  have s : A ≠ r ∧ r ≠ A ∧ A ≠ u ∧ u ≠ A ∧ r ≠ u ∧ u ≠ r := (by have J := Z.out; omega)
  refine bodyPost_ret (results_c rfl _ _ r 36 _ (0, 0) _ rfl b.out hu36 rfl rfl) rfl ?_
  exact ⟨_, rfl, ⟨_, _, rfl, NQ.none_ _ _ _ _ _ _⟩, m.out, G.out⟩)
theorem tree_element.num {B pb : Nat} {t : S28} {l : List S28} {d : Int} (w : World) (h : PS B w pb (t :: l) d) (h17 : (t.f0 == 17) = false) (h8 : (t.f0 == 8) = false) (h4 : (t.f0 == 4) = true) : Calls Try.prog 86 #[.pointer (some ⟨pb, 0, none⟩)] w (Ans (.ok (.mk 1 t.f1 t.f2 0 [] [], SP.tl (t :: l))) B pb d w (fun x v w' => NV (fun q => w.heap.size ≤ q) w' x v)) := tree_element.leaf w h h17 h8 (Or.inl ⟨h4, rfl⟩)
theorem tree_element.str {B pb : Nat} {t : S28} {l : List S28} {d : Int} (w : World) (h : PS B w pb (t :: l) d) (h17 : (t.f0 == 17) = false) (h8 : (t.f0 == 8) = false) (h4 : (t.f0 == 4) = false) (h5 : (t.f0 == 5) = true) : Calls Try.prog 86 #[.pointer (some ⟨pb, 0, none⟩)] w (Ans (.ok (.mk 2 t.f1 t.f2 0 [] [], SP.tl (t :: l))) B pb d w (fun x v w' => NV (fun q => w.heap.size ≤ q) w' x v)) := tree_element.leaf w h h17 h8 (Or.inr (Or.inl ⟨h4, h5, rfl⟩))
theorem tree_element.word1 {B pb : Nat} {t : S28} {l : List S28} {d : Int} (w : World) (h : PS B w pb (t :: l) d) (h17 : (t.f0 == 17) = false) (h8 : (t.f0 == 8) = false) (h4 : (t.f0 == 4) = false) (h5 : (t.f0 == 5) = false) (h1 : (t.f0 == 1) = true) (s0 : (t.f1.toList == [116, 114, 117, 101]) = true) : Calls Try.prog 86 #[.pointer (some ⟨pb, 0, none⟩)] w (Ans (.ok (.mk 13 t.f1 t.f2 0 [] [], SP.tl (t :: l))) B pb d w (fun x v w' => NV (fun q => w.heap.size ≤ q) w' x v)) := tree_element.leaf w h h17 h8 (Or.inr (Or.inr (Or.inl ⟨h4, h5, h1, s0, rfl⟩)))
theorem tree_element.word2 {B pb : Nat} {t : S28} {l : List S28} {d : Int} (w : World) (h : PS B w pb (t :: l) d) (h17 : (t.f0 == 17) = false) (h8 : (t.f0 == 8) = false) (h4 : (t.f0 == 4) = false) (h5 : (t.f0 == 5) = false) (h1 : (t.f0 == 1) = true) (s0 : (t.f1.toList == [116, 114, 117, 101]) = false) (s1 : (t.f1.toList == [102, 97, 108, 115, 101]) = true) : Calls Try.prog 86 #[.pointer (some ⟨pb, 0, none⟩)] w (Ans (.ok (.mk 13 t.f1 t.f2 0 [] [], SP.tl (t :: l))) B pb d w (fun x v w' => NV (fun q => w.heap.size ≤ q) w' x v)) := tree_element.leaf w h h17 h8 (Or.inr (Or.inr (Or.inr (Or.inl ⟨h4, h5, h1, s0, s1, rfl⟩))))
theorem tree_element.word3 {B pb : Nat} {t : S28} {l : List S28} {d : Int} (w : World) (h : PS B w pb (t :: l) d) (h17 : (t.f0 == 17) = false) (h8 : (t.f0 == 8) = false) (h4 : (t.f0 == 4) = false) (h5 : (t.f0 == 5) = false) (h1 : (t.f0 == 1) = true) (s0 : (t.f1.toList == [116, 114, 117, 101]) = false) (s1 : (t.f1.toList == [102, 97, 108, 115, 101]) = false) (s2 : (t.f1.toList == [110, 105, 108]) = true) : Calls Try.prog 86 #[.pointer (some ⟨pb, 0, none⟩)] w (Ans (.ok (.mk 13 t.f1 t.f2 0 [] [], SP.tl (t :: l))) B pb d w (fun x v w' => NV (fun q => w.heap.size ≤ q) w' x v)) := tree_element.leaf w h h17 h8 (Or.inr (Or.inr (Or.inr (Or.inr (⟨h4, h5, h1, s0, s1, s2, rfl⟩)))))
theorem tree_element.poor {B pb : Nat} {t : S28} {l : List S28} {d : Int} (w : World) (h : PS B w pb (t :: l) d) (h17 : (t.f0 == 17) = false) (h8 : (t.f0 == 8) = false) (h4 : (t.f0 == 4) = false) (h5 : (t.f0 == 5) = false) (h1 : (t.f0 == 1) = false) (h6 : (t.f0 == 6) = false) (h2 : (t.f0 == 2) = false) (h3 : (t.f0 == 3) = false) :
  Calls Try.prog 86 #[.pointer (some ⟨pb, 0, none⟩)] w (Ans (.error (t.f2, 20)) B pb d w (fun x v w' => NV (fun q => w.heap.size ≤ q) w' x v)) := by
 have hu64 := Try.underlying64
 have hu36 := Try.underlying36
 have G := Aside0.mk (Fr.refl (fun k => k = pb) w)
 have e := Aside0.mk h
 have Z := Aside0.mk (And.intro e.out.1 (And.intro e.out.2.1 (Nat.le_refl w.heap.size)))
 clear h
 go_enter Try.func86, Try.ntmps86
 go_wp2_with (first
  | ((with_reducible refine gate_dst (N := 2) rfl ?_); apply boxE 2 #[.int .i64 0, .string ⟨#[]⟩, .int .i64 0, .int .i64 0, .slice none 0 0, .slice none 0 0] 36; intro p E c m r; replace G := G.f0 m; replace e := e.p0 m; replace Z := Z.a r; clear r m; have b := c.e6; clear b; have b := c.e6; obtain ⟨C, F, V⟩ := e.out.blk_; have i := Aside0.mk V; clear V; clear b; have b := c.e6; have o := i.c2; have s : p ≠ pb ∧ pb ≠ p := (by have W := Z.out; omega); obtain ⟨I, J, u, y, z⟩ := e.out.cells_ i.out; have M : (0 : Int) < ((t :: l).length : Int) := (by simp only [List.length_cons]; omega))
  | ((with_reducible refine gate_dst (N := 3) rfl ?_); apply boxE 3 #[.int .i64 0, .string ⟨#[]⟩, .int .i64 0] 64; intro D H j m r; replace G := G.f0 m; replace e := e.p0 m; replace c := c.b0 m; replace i := i.b0 m; replace Z := Z.a r; clear r m; clear b o s u y z M I J; have b := c.e6; have o := i.c2; have n := j.e3; have s : D ≠ p ∧ p ≠ D ∧ D ≠ pb ∧ pb ≠ D ∧ p ≠ pb ∧ pb ≠ p := (by have W := Z.out; omega); obtain ⟨I, J, u, y, z⟩ := e.out.cells_ i.out; have M : (0 : Int) < ((t :: l).length : Int) := (by simp only [List.length_cons]; omega))
  | ((with_reducible refine gate_dst (N := 4) rfl ?_); have X := j.s3 (.int .i64 t.f0) (.string t.f1) (.int .i64 t.f2); clear j; obtain ⟨K, O, m, j⟩ := X; rw [O]; clear O; have W := Z.out; replace G := G.f1 m (by omega); replace e := e.p1 m (by omega); replace c := c.b1 m (by omega); replace i := i.b1 m (by omega); clear W; replace Z := Z.k m; clear m; clear b o n s u y z M I J; have b := c.e6; have o := i.c2; have n := j.c3; have s : p ≠ pb ∧ pb ≠ p ∧ p ≠ D ∧ D ≠ p := (by have W := Z.out; omega); obtain ⟨I, J, u, y, z⟩ := e.out.cells_ i.out; have M : (0 : Int) < ((t :: l).length : Int) := (by simp only [List.length_cons]; omega); clear i; apply boxE 4 #[.int .i64 0, .string ⟨#[]⟩, .int .i64 0, .int .i64 0, .slice none 0 0, .slice none 0 0] 36; intro Y L A m r; replace G := G.f0 m; replace e := e.p0 m; replace c := c.b0 m; replace j := j.b0 m; replace Z := Z.a r; clear r m; clear b o n s u y z M I J; have b := c.e6; have n := j.c3; have U := A.e6; have s : Y ≠ p ∧ p ≠ Y ∧ Y ≠ D ∧ D ≠ Y ∧ p ≠ D ∧ D ≠ p := (by have W := Z.out; omega))
  | ((with_reducible refine gate_dst (N := 19) rfl ?_); (try (refine gate_guard (by rfl) ?_; dsimp only)); have X := A.s6 (.int .i64 3) (.string t.f1) (.int .i64 t.f2) (.int .i64 0) (.slice none 0 0) (.slice none 0 0); clear A; obtain ⟨P, O, m, A⟩ := X; rw [O]; clear O; have W := Z.out; replace G := G.f1 m (by omega); replace e := e.p1 m (by omega); replace c := c.b1 m (by omega); replace j := j.b1 m (by omega); clear W; replace Z := Z.k m; clear m; clear b n U s; have b := c.e6; have n := j.c3; have U := A.e6; have s : Y ≠ p ∧ p ≠ Y ∧ Y ≠ D ∧ D ≠ Y ∧ p ≠ D ∧ D ≠ p := (by have W := Z.out; omega); apply badE 19 20 e))
 exact ⟨rfl, rfl, G.out⟩
omit [Low] in
theorem bt_ {a b : Int} (h : a = b) : (a == b) = true := by simp [h]
omit [Low] in
theorem bf_ {a b : Int} (h : ¬ a = b) : (a == b) = false := by simp [h]
omit [Low] in
theorem sl_ (t : ByteArray) (l : List UInt8) : (t.toList == l) = decide (t = ⟨l.toArray⟩) := by
 rw [ByteArray.toList_eq]
 by_cases h : t = ⟨l.toArray⟩
 ·rw [h]; simp
 ·have h2 : ¬ t.data.toList = l := fun e => h (by rw [← e])
  simp [h, h2]
theorem tree_element.step {k : Nat} (ihl : CN 82 SP.list k) : CN 86 SP.elem (k + 1) := by
 intro B pb d l r w hr h
 cases l with
 | nil => simp [SP.elem, SP.top] at hr
 | cons t l =>
  unfold SP.elem at hr
  simp only [SP.top] at hr
  by_cases h17 : t.f0 = 17
  ·rw [if_pos (.inl h17)] at hr
   exact tree_element.list ihl w h (bt_ h17) hr
  by_cases h8 : t.f0 = 8
  ·rw [if_pos (.inr h8)] at hr
   exact tree_element.open ihl w h (bf_ h17) (bt_ h8) hr
  rw [if_neg (by simp [h17, h8])] at hr
  by_cases h4 : t.f0 = 4
  ·rw [if_pos h4] at hr
   obtain rfl := Option.some.inj hr
   exact tree_element.num w h (bf_ h17) (bf_ h8) (bt_ h4)
  rw [if_neg h4] at hr
  by_cases h5 : t.f0 = 5
  ·rw [if_pos h5] at hr
   obtain rfl := Option.some.inj hr
   exact tree_element.str w h (bf_ h17) (bf_ h8) (bf_ h4) (bt_ h5)
  rw [if_neg h5] at hr
  by_cases h1 : t.f0 = 1
  ·rw [if_pos h1] at hr
   obtain rfl := Option.some.inj hr
   by_cases s0 : t.f1 = SP.sTrue
   ·rw [if_pos (.inl s0)]
    exact tree_element.word1 w h (bf_ h17) (bf_ h8) (bf_ h4) (bf_ h5) (bt_ h1) (by rw [sl_]; exact decide_eq_true s0)
   by_cases s1 : t.f1 = SP.sFalse
   ·rw [if_pos (.inr (.inl s1))]
    exact tree_element.word2 w h (bf_ h17) (bf_ h8) (bf_ h4) (bf_ h5) (bt_ h1) (by rw [sl_]; exact decide_eq_false s0) (by rw [sl_]; exact decide_eq_true s1)
   by_cases s2 : t.f1 = SP.sNil
   ·rw [if_pos (.inr (.inr s2))]
    exact tree_element.word3 w h (bf_ h17) (bf_ h8) (bf_ h4) (bf_ h5) (bt_ h1) (by rw [sl_]; exact decide_eq_false s0) (by rw [sl_]; exact decide_eq_false s1) (by rw [sl_]; exact decide_eq_true s2)
   ·rw [if_neg (by simp [s0, s1, s2])]
    exact tree_element.name w h (bf_ h17) (bf_ h8) (bf_ h4) (bf_ h5) (bt_ h1) (by rw [sl_]; exact decide_eq_false s0) (by rw [sl_]; exact decide_eq_false s1) (by rw [sl_]; exact decide_eq_false s2)
  rw [if_neg h1] at hr
  by_cases h6 : t.f0 = 6
  ·rw [if_pos (.inl h6)] at hr
   obtain rfl := Option.some.inj hr
   exact tree_element.sym6 w h (bf_ h17) (bf_ h8) (bf_ h4) (bf_ h5) (bf_ h1) (bt_ h6)
  by_cases h2 : t.f0 = 2
  ·rw [if_pos (.inr (.inl h2))] at hr
   obtain rfl := Option.some.inj hr
   exact tree_element.sym2 w h (bf_ h17) (bf_ h8) (bf_ h4) (bf_ h5) (bf_ h1) (bf_ h6) (bt_ h2)
  by_cases h3 : t.f0 = 3
  ·rw [if_pos (.inr (.inr h3))] at hr
   obtain rfl := Option.some.inj hr
   exact tree_element.sym3 w h (bf_ h17) (bf_ h8) (bf_ h4) (bf_ h5) (bf_ h1) (bf_ h6) (bf_ h2) (bt_ h3)
  rw [if_neg (by simp [h6, h2, h3])] at hr
  simp only [SP.bad, SP.top, Option.some.injEq] at hr
  subst hr
  exact tree_element.poor w h (bf_ h17) (bf_ h8) (bf_ h4) (bf_ h5) (bf_ h1) (bf_ h6) (bf_ h2) (bf_ h3)
end Go.Proofs.Ytpodpmjlkbbkoaa.P
