import Derived.Test.YtpodpmjlkbbkoaaQCTG
import Derived.Test.YtpodpmjlkbbkoaaQCTA
set_option linter.all false
set_option maxHeartbeats 16000000
set_option maxRecDepth 100000
namespace Go.Proofs.Ytpodpmjlkbbkoaa.P
open Go.RowKit Go.Proofs.YtpodpmjlkbbkoaaW.PrintWords Go.Proofs.YtpodpmjlkbbkoaaW.PrintLast Go.Proofs.YtpodpmjlkbbkoaaW.PrintMore
variable [Low]
attribute [local go_sem] field64_1 field64_2
def NdBox (g : Nat) (S : Nat → Prop) (x : SP.Nd) (w : World) : Prop := ∃ An cn Ak ck, w.heap[g]? = some (.cells #[.int .i64 x.kind, .string x.text, .int .i64 x.place, .int .i64 x.n, .slice An x.names.length cn, .slice Ak x.kids.length ck] 36 (0, 0)) ∧ NQ S w x (.slice An x.names.length cn) (.slice Ak x.kids.length ck)
theorem tree_chain.many {F : FuncId} {fn : Func} (hF : Try.prog.funcs[F]? = some fn) (hFn : (fn.name == "runtime.NumGoroutine") = false) (hFb : fn.body.isSome = true) {k : Nat} (ihs : ∀ j, j ≤ k → CS j) {B pb : Nat} {l : List S28} {d kd : Int} {r : Except (Int × Int) ((SP.Nd × Bool) × List S28)} {r0 : Except (Int × Int) ((SP.Nd × Bool) × List S28)} (w : World) (h : PS B w pb l d)
  (hread : ∀ w, PS B w pb l d → Calls Try.prog F #[.pointer (some ⟨pb, 0, none⟩)] w (Ans r0 B pb d w (fun x v w' => ∃ u, v = .tuple #[u, .bool x.2] ∧ NV (fun q => w.heap.size ≤ q) w' x.1 u))) {r0' : SP.PR (SP.Nd × Bool)} (H : Aside0 (SP.bind r0' (fun np l2 => SP.chain k d kd np l2) = some r)) (hr0 : r0' = some r0) :
  Calls Try.prog 74 #[.pointer (some ⟨pb, 0, none⟩), .int .i64 kd, .bool false, .func (.func F) #[.pointer (some ⟨pb, 0, none⟩)] #[]] w (Ans r B pb d w (fun x v w' => ∃ u, v = .tuple #[u, .bool x.2] ∧ NV (fun q => w.heap.size ≤ q) w' x.1 u)) := by
 subst hr0
 have hu36 := Try.underlying36
 have D := Aside0.mk (Fr.refl (fun k => k = pb) w)
 have s := Aside0.mk h
 have Z := Aside0.mk (And.intro s.out.1 (And.intro s.out.2.1 (Nat.le_refl w.heap.size)))
 clear h
 go_enter Try.func74, Try.ntmps74
 go_wp2_with (first
  | ((with_reducible refine gate_dst (N := 8) rfl ?_); apply boxE 8 #[.int .i64 0, .string ⟨#[]⟩, .int .i64 0, .int .i64 0, .slice none 0 0, .slice none 0 0] 36; intro z Q e t O; replace D := D.f0 t; replace s := s.p0 t; replace Z := Z.a O; clear O t; have i := e.e6)
  | ((with_reducible refine gate_dst (N := 14) rfl ?_); (try (refine gate_guard (by rfl) ?_; dsimp only)); refine goesV_ (some 14) rfl rfl hF hFn hFb (.tmp 13) #[.pointer (some ⟨pb, 0, none⟩)] #[] #[.pointer (some ⟨pb, 0, none⟩)] rfl rfl (by (try simp only [List.map_toArray, List.map_cons, List.map_nil]); first | done | rfl) ?_; refine (hread _ s.out).mono ?_; rintro R S U; rcases r0 with x_ | ⟨x, l2⟩; (obtain ⟨rfl, t⟩ := U; obtain rfl : r = Except.error x_ := (Option.some.inj H.out).symm; exact Or.inr ⟨_, rfl, rfl, rfl, D.out.then_ t (fun k hk => .inl hk)⟩); obtain ⟨v_, rfl, ⟨u_, rfl, nva, kva, rfl, y⟩, J, t⟩ := U; refine Or.inl ⟨_, rfl, ?_⟩; obtain ⟨Ana, cna, rfl, _⟩ := Kd.Q_slice y.1; obtain ⟨Aka, cka, rfl, _⟩ := Kd.Q_slice y.2; replace s := Aside0.mk J; have G := Z.out; replace D := D.f1 t (by omega); replace e := e.b1 t (by omega); clear G; replace Z := Z.k t; have A := Aside0.mk (y.mono (T := fun k => (Q.heap.size ≤ k ∧ k < S.heap.size)) (fun k h1 h2 => ⟨h1, h2⟩)); clear J y t; clear i; have i := e.e6)
  | ((with_reducible refine gate_dst (N := 10) rfl ?_); apply boxE 10 #[.int .i64 0, .string ⟨#[]⟩, .int .i64 0, .int .i64 0, .slice none 0 0, .slice none 0 0] 36; intro p v3 c t O; replace D := D.f0 t; replace s := s.p0 t; replace e := e.b0 t; replace A := A.n0 t; replace Z := Z.a O; clear O t; clear i; have i := e.e6; have o := c.e6; have I : p ≠ z ∧ z ≠ p := (by have G := Z.out; omega)))
 have V := c.s6 (.int .i64 x.1.kind) (.string x.1.text) (.int .i64 x.1.place) (.int .i64 x.1.n) (.slice Ana x.1.names.length cna) (.slice Aka x.1.kids.length cka)
 clear c
 obtain ⟨v4, M, t, c⟩ := V
 rw [M]
 clear M
 have G := Z.out
 replace D := D.f1 t (by omega)
 replace s := s.p1 t (by omega)
 replace e := e.b1 t (by omega)
 replace A := A.n1 t (fun k hk => by omega)
 clear G
 replace Z := Z.k t
 clear t
 clear i o I
 have i := e.e6
 have o := c.e6
 have I : p ≠ z ∧ z ≠ p := (by have G := Z.out; omega)
 obtain ⟨pl0, hpl⟩ : ∃ b, b = x.2 := ⟨_, rfl⟩
 go_loopg [11] k (fun kq K w' => ∃ (l' : List S28) (x : SP.Nd) (pl : Bool), K = .bool pl ∧ Aside0 (SP.chain kq d kd (x, pl) l' = some r) ∧ Aside0 (PS B w' pb l' d) ∧ Aside0 (w'.heap[z]? = some (.cells #[.int .i64 0, .string ⟨#[]⟩, .int .i64 0, .int .i64 0, .slice none 0 0, .slice none 0 0] 36 (0, 0))) ∧ Aside0 (NdBox p (fun k => (w.heap.size ≤ k ∧ k ≠ z ∧ k ≠ p)) x w') ∧ Aside0 (Fr (fun k => k = pb) w w') ∧ Aside0 (kq ≤ k))
 case atStart => exact ⟨l2, x.1, x.2, rfl, H, s, e, ⟨_, _, _, _, c.out, A.out.mono (fun k h1 _ => (show (w.heap.size ≤ k ∧ k ≠ z ∧ k ≠ p) from by have G := Z.out; omega))⟩, D, ⟨Nat.le_refl _⟩⟩
 case round =>
  clear H s e c D A hpl hread
  obtain ⟨l', x, pl, rfl, H, s, e, ⟨Ana, cna, Aka, cka, X, y⟩, D, L⟩ := hrel
  have c := Aside0.mk X
  have A := Aside0.mk y
  have Z0 := Aside0.mk (show pb < B ∧ B ≤ w.heap.size ∧ w.heap.size ≤ z ∧ w.heap.size ≤ p ∧ z ≠ p from by have G := Z.out; omega)
  replace Z := Aside0.mk (And.intro D.out.size (And.intro (blk_lt e.out) (And.intro (blk_lt c.out) Z0.out)))
  clear Z0 X y
  cases gk with
  | zero => exact absurd H.out (by simp [SP.chain])
  | succ k1 =>
   cases l' with
   | nil => exact absurd H.out (by simp [SP.chain, SP.top])
   | cons u l1 =>
    by_cases h2 : u.f0 = kd
    ·have c9 : (u.f0 == kd) = true := by simp [h2]
     have H2 := H.out
     simp only [SP.chain, SP.top, h2, if_true] at H2
     replace H := Aside0.mk H2
     clear H2 h2
     obtain ⟨r1, he⟩ : ∃ r1, SP.sent k1 d x (u :: l1) = some r1 := by
      cases he : SP.sent k1 d x (u :: l1) with
      | none => exact absurd H.out (by rw [he]; simp [SP.bind])
      | some r1 => exact ⟨r1, rfl⟩
     have H2 := H.out
     rw [he] at H2
     replace H := Aside0.mk H2
     have hx := Aside0.mk he
     clear H2 he
     have i := e.c6
     have o := c.e6
     have I : p ≠ z ∧ z ≠ p := (by have G := Z.out; omega)
     go_wp2_with (first
      | ((with_reducible refine gate_dst (N := 18) rfl ?_); (try (refine gate_guard (by rfl) ?_; dsimp only)); apply kindE 18 s)
      | ((with_reducible refine gate_dst (N := 23) rfl ?_); (try (refine gate_guard (by rfl) ?_; dsimp only)); apply goE 23 Try.func79 (ihs _ (by have := L.out; omega) _ _ _ _ _ (fun k => ((w.heap.size ≤ k ∧ k ≠ z ∧ k ≠ p) ∧ k < wr.heap.size)) _ _ _ hx.out s.out ⟨_, _, rfl, A.out.mono (fun k W C => (show ((w.heap.size ≤ k ∧ k ≠ z ∧ k ≠ p) ∧ k < wr.heap.size) from ⟨W, C⟩))⟩ (fun k (hk : ((w.heap.size ≤ k ∧ k ≠ z ∧ k ≠ p) ∧ k < wr.heap.size)) => (show B ≤ k ∧ k < wr.heap.size from by have G := Z.out; omega))); clear A; rintro R E U; rcases r1 with x_ | ⟨m, l2b⟩; (obtain ⟨rfl, t⟩ := U; obtain rfl : r = Except.error x_ := (Option.some.inj H.out).symm; exact Or.inr ⟨_, rfl, rfl, rfl, D.out.then_ t (fun k hk => .inl hk)⟩); obtain ⟨v_, rfl, ⟨nvm, kvm, rfl, y⟩, J, t⟩ := U; refine Or.inl ⟨_, rfl, ?_⟩; obtain ⟨Anm, cnm, rfl, _⟩ := Kd.Q_slice y.1; obtain ⟨Akm, ckm, rfl, _⟩ := Kd.Q_slice y.2; replace s := Aside0.mk J; have G := Z.out; replace D := D.f1 t (by omega); replace e := e.b1 t (by omega); replace c := c.b1 t (by omega); clear G; replace Z := Z.k t; have Y := Aside0.mk (y.mono (T := fun k => (w.heap.size ≤ k ∧ k ≠ z ∧ k ≠ p)) (fun k W C => W.elim (fun (h : ((w.heap.size ≤ k ∧ k ≠ z ∧ k ≠ p) ∧ k < wr.heap.size)) => (show (w.heap.size ≤ k ∧ k ≠ z ∧ k ≠ p) from by have G := Z.out; omega)) (fun (h : wr.heap.size ≤ k) => (show (w.heap.size ≤ k ∧ k ≠ z ∧ k ≠ p) from by have G := Z.out; omega)))); clear J y t; clear i o I; have i := e.c6; have o := c.e6; have I : p ≠ z ∧ z ≠ p := (by have G := Z.out; omega)))
     have V := c.s6 (.int .i64 m.kind) (.string m.text) (.int .i64 m.place) (.int .i64 m.n) (.slice Anm m.names.length cnm) (.slice Akm m.kids.length ckm)
     clear c
     obtain ⟨P, M, t, c⟩ := V
     rw [M]
     clear M
     have G := Z.out
     replace D := D.f1 t (by omega)
     replace s := s.p1 t (by omega)
     replace e := e.b1 t (by omega)
     replace Y := Y.n1 t (fun k hk => by omega)
     clear G
     replace Z := Z.k t
     clear t
     clear i o I
     have i := e.c6
     have o := c.e6
     have I : p ≠ z ∧ z ≠ p := (by have G := Z.out; omega)
     go_roundg k1
     case measure => omega
     case rel => exact ⟨l2b, m, true, rfl, H, s, e, ⟨_, _, _, _, c.out, Y.out⟩, D, ⟨by have := L.out; omega⟩⟩
    have c9 : (u.f0 == kd) = false := by simp [h2]
    have H2 := H.out
    simp only [SP.chain, SP.top, h2, if_false, SP.ret, Option.some.injEq] at H2
    subst H2
    clear H h2
    have i := e.e6
    have o := c.c6
    have I : z ≠ p ∧ p ≠ z := (by have G := Z.out; omega)
    go_wp2_with (first
     | ((with_reducible refine gate_dst (N := 18) rfl ?_); (try (refine gate_guard (by rfl) ?_; dsimp only)); apply kindE 18 s))
    have V := e.s6 (.int .i64 x.kind) (.string x.text) (.int .i64 x.place) (.int .i64 x.n) (.slice Ana x.names.length cna) (.slice Aka x.kids.length cka)
    clear e
    obtain ⟨E, M, t, e⟩ := V
    rw [M]
    clear M
    have G := Z.out
    replace D := D.f1 t (by omega)
    replace s := s.p1 t (by omega)
    replace c := c.b1 t (by omega)
    replace A := A.n1 t (fun k hk => by omega)
    clear G
    replace Z := Z.k t
    clear t
    clear i o I
    have i := e.e6
    have o := c.c6
    have I : z ≠ p ∧ p ≠ z := (by have G := Z.out; omega)
    refine bodyPost_ret (results_ct rfl _ _ z 36 _ (0, 0) _ rfl e.out hu36 rfl rfl) rfl ?_
    exact ⟨_, rfl, ⟨_, rfl, _, _, rfl, A.out.mono (fun k h1 _ => h1.1)⟩, s.out, D.out⟩
theorem tree_chain.once {F : FuncId} {fn : Func} (hF : Try.prog.funcs[F]? = some fn) (hFn : (fn.name == "runtime.NumGoroutine") = false) (hFb : fn.body.isSome = true) {k : Nat} (ihs : ∀ j, j ≤ k → CS j) {B pb : Nat} {l : List S28} {d kd : Int} {r : Except (Int × Int) ((SP.Nd × Bool) × List S28)} {r0 : Except (Int × Int) ((SP.Nd × Bool) × List S28)} (w : World) (h : PS B w pb l d)
  (hread : ∀ w, PS B w pb l d → Calls Try.prog F #[.pointer (some ⟨pb, 0, none⟩)] w (Ans r0 B pb d w (fun x v w' => ∃ u, v = .tuple #[u, .bool x.2] ∧ NV (fun q => w.heap.size ≤ q) w' x.1 u))) {r0' : SP.PR (SP.Nd × Bool)} (H : Aside0 (SP.bind r0' (fun np l2 => SP.top l2 fun u => if u.f0 = kd then SP.bind (SP.sent k d np.1 l2) (fun m l3 => SP.ret (m, true) l3) else SP.ret np l2) = some r)) (hr0 : r0' = some r0) :
  Calls Try.prog 74 #[.pointer (some ⟨pb, 0, none⟩), .int .i64 kd, .bool true, .func (.func F) #[.pointer (some ⟨pb, 0, none⟩)] #[]] w (Ans r B pb d w (fun x v w' => ∃ u, v = .tuple #[u, .bool x.2] ∧ NV (fun q => w.heap.size ≤ q) w' x.1 u)) := by
 subst hr0
 have hu36 := Try.underlying36
 have I := Aside0.mk (Fr.refl (fun k => k = pb) w)
 have s := Aside0.mk h
 have Z := Aside0.mk (And.intro s.out.1 (And.intro s.out.2.1 (Nat.le_refl w.heap.size)))
 clear h
 go_enter Try.func74, Try.ntmps74
 go_wp2_with (first
  | ((with_reducible refine gate_dst (N := 8) rfl ?_); apply boxE 8 #[.int .i64 0, .string ⟨#[]⟩, .int .i64 0, .int .i64 0, .slice none 0 0, .slice none 0 0] 36; intro y P b p O; replace I := I.f0 p; replace s := s.p0 p; replace Z := Z.a O; clear O p; have i := b.e6)
  | ((with_reducible refine gate_dst (N := 14) rfl ?_); (try (refine gate_guard (by rfl) ?_; dsimp only)); refine goesV_ (some 14) rfl rfl hF hFn hFb (.tmp 13) #[.pointer (some ⟨pb, 0, none⟩)] #[] #[.pointer (some ⟨pb, 0, none⟩)] rfl rfl (by (try simp only [List.map_toArray, List.map_cons, List.map_nil]); first | done | rfl) ?_; refine (hread _ s.out).mono ?_; rintro Q R U; rcases r0 with x_ | ⟨x, l2⟩; (obtain ⟨rfl, p⟩ := U; obtain rfl : r = Except.error x_ := (Option.some.inj H.out).symm; exact Or.inr ⟨_, rfl, rfl, rfl, I.out.then_ p (fun k hk => .inl hk)⟩); obtain ⟨v_, rfl, ⟨u_, rfl, nva, kva, rfl, z⟩, J, p⟩ := U; refine Or.inl ⟨_, rfl, ?_⟩; obtain ⟨Ana, cna, rfl, _⟩ := Kd.Q_slice z.1; obtain ⟨Aka, cka, rfl, _⟩ := Kd.Q_slice z.2; replace s := Aside0.mk J; have D := Z.out; replace I := I.f1 p (by omega); replace b := b.b1 p (by omega); clear D; replace Z := Z.k p; have G := Aside0.mk (z.mono (T := fun k => (P.heap.size ≤ k ∧ k < R.heap.size)) (fun k h1 h2 => ⟨h1, h2⟩)); clear J z p; clear i; have i := b.e6)
  | ((with_reducible refine gate_dst (N := 10) rfl ?_); apply boxE 10 #[.int .i64 0, .string ⟨#[]⟩, .int .i64 0, .int .i64 0, .slice none 0 0, .slice none 0 0] 36; intro o S c p O; replace I := I.f0 p; replace s := s.p0 p; replace b := b.b0 p; replace G := G.n0 p; replace Z := Z.a O; clear O p; clear i; have i := b.e6; have e := c.e6; have t : o ≠ y ∧ y ≠ o := (by have D := Z.out; omega)))
 have M := c.s6 (.int .i64 x.1.kind) (.string x.1.text) (.int .i64 x.1.place) (.int .i64 x.1.n) (.slice Ana x.1.names.length cna) (.slice Aka x.1.kids.length cka)
 clear c
 obtain ⟨W, A, p, c⟩ := M
 rw [A]
 clear A
 have D := Z.out
 replace I := I.f1 p (by omega)
 replace s := s.p1 p (by omega)
 replace b := b.b1 p (by omega)
 replace G := G.n1 p (fun k hk => by omega)
 clear D
 replace Z := Z.k p
 clear p
 clear i e t
 have i := b.e6
 have e := c.e6
 have t : o ≠ y ∧ y ≠ o := (by have D := Z.out; omega)
 replace G := Aside0.mk (G.out.mono (T := fun k => (w.heap.size ≤ k ∧ k ≠ y ∧ k ≠ o)) (fun k h1 _ => (show (w.heap.size ≤ k ∧ k ≠ y ∧ k ≠ o) from by have D := Z.out; omega)))
 go_loopg [11] 0 (fun kq E w' => E = .bool x.2 ∧ w' = W)
 case atStart => exact ⟨rfl, rfl⟩
 case round =>
  obtain ⟨rfl, A⟩ := hrel
  rw [A]
  clear A
  cases l2 with
  | nil => exact absurd H.out (by simp [SP.bind, SP.top])
  | cons u l1 =>
   by_cases h2 : u.f0 = kd
   ·have c9 : (u.f0 == kd) = true := by simp [h2]
    have H2 := H.out
    simp only [SP.bind, SP.top, h2, if_true] at H2
    change SP.bind (SP.sent k d x.1 (u :: l1)) (fun m l3 => SP.ret (m, true) l3) = some r at H2
    replace H := Aside0.mk H2
    clear H2 h2
    obtain ⟨r1, he⟩ : ∃ r1, SP.sent k d x.1 (u :: l1) = some r1 := by
     cases he : SP.sent k d x.1 (u :: l1) with
     | none => exact absurd H.out (by rw [he]; simp [SP.bind])
     | some r1 => exact ⟨r1, rfl⟩
    have H2 := H.out
    rw [he] at H2
    replace H := Aside0.mk H2
    have hx := Aside0.mk he
    clear H2 he
    clear i e t
    have i := b.e6
    have e := c.e6
    have t : o ≠ y ∧ y ≠ o := (by have D := Z.out; omega)
    go_wp2_with (first
     | ((with_reducible refine gate_dst (N := 18) rfl ?_); (try (refine gate_guard (by rfl) ?_; dsimp only)); apply kindE 18 s)
     | ((with_reducible refine gate_dst (N := 23) rfl ?_); (try (refine gate_guard (by rfl) ?_; dsimp only)); apply goE 23 Try.func79 (ihs _ (Nat.le_refl _) _ _ _ _ _ (fun k => ((w.heap.size ≤ k ∧ k ≠ y ∧ k ≠ o) ∧ k < W.heap.size)) _ _ _ hx.out s.out ⟨_, _, rfl, G.out.mono (fun k Y X => (show ((w.heap.size ≤ k ∧ k ≠ y ∧ k ≠ o) ∧ k < W.heap.size) from ⟨Y, X⟩))⟩ (fun k (hk : ((w.heap.size ≤ k ∧ k ≠ y ∧ k ≠ o) ∧ k < W.heap.size)) => (show B ≤ k ∧ k < W.heap.size from by have D := Z.out; omega))); clear G; rintro Q C U; rcases r1 with x_ | ⟨m, l2b⟩; (obtain ⟨rfl, p⟩ := U; obtain rfl : r = Except.error x_ := (Option.some.inj H.out).symm; exact Or.inr ⟨_, rfl, rfl, rfl, I.out.then_ p (fun k hk => .inl hk)⟩); obtain ⟨v_, rfl, ⟨nvm, kvm, rfl, z⟩, J, p⟩ := U; refine Or.inl ⟨_, rfl, ?_⟩; obtain ⟨Anm, cnm, rfl, _⟩ := Kd.Q_slice z.1; obtain ⟨Akm, ckm, rfl, _⟩ := Kd.Q_slice z.2; replace s := Aside0.mk J; have D := Z.out; replace I := I.f1 p (by omega); replace b := b.b1 p (by omega); replace c := c.b1 p (by omega); clear D; replace Z := Z.k p; have V := Aside0.mk (z.mono (T := fun k => (w.heap.size ≤ k ∧ k ≠ y ∧ k ≠ o)) (fun k Y X => Y.elim (fun (h : ((w.heap.size ≤ k ∧ k ≠ y ∧ k ≠ o) ∧ k < W.heap.size)) => (show (w.heap.size ≤ k ∧ k ≠ y ∧ k ≠ o) from by have D := Z.out; omega)) (fun (h : W.heap.size ≤ k) => (show (w.heap.size ≤ k ∧ k ≠ y ∧ k ≠ o) from by have D := Z.out; omega)))); clear J z p; clear i e t; have i := b.e6; have e := c.e6; have t : o ≠ y ∧ y ≠ o := (by have D := Z.out; omega); clear i e t; have i := b.e6; have e := c.e6; have t : o ≠ y ∧ y ≠ o := (by have D := Z.out; omega)))
    have M := c.s6 (.int .i64 m.kind) (.string m.text) (.int .i64 m.place) (.int .i64 m.n) (.slice Anm m.names.length cnm) (.slice Akm m.kids.length ckm)
    clear c
    obtain ⟨K, A, p, c⟩ := M
    rw [A]
    clear A
    have D := Z.out
    replace I := I.f1 p (by omega)
    replace s := s.p1 p (by omega)
    replace b := b.b1 p (by omega)
    replace V := V.n1 p (fun k hk => by omega)
    clear D
    replace Z := Z.k p
    clear p
    clear i e t
    have i := b.e6
    have e := c.e6
    have t : o ≠ y ∧ y ≠ o := (by have D := Z.out; omega)
    have M := b.s6 (.int .i64 m.kind) (.string m.text) (.int .i64 m.place) (.int .i64 m.n) (.slice Anm m.names.length cnm) (.slice Akm m.kids.length ckm)
    clear b
    obtain ⟨L, A, p, b⟩ := M
    rw [A]
    clear A
    have D := Z.out
    replace I := I.f1 p (by omega)
    replace s := s.p1 p (by omega)
    replace c := c.b1 p (by omega)
    replace V := V.n1 p (fun k hk => by omega)
    clear D
    replace Z := Z.k p
    clear p
    clear i e t
    have i := b.e6
    have e := c.e6
    have t : o ≠ y ∧ y ≠ o := (by have D := Z.out; omega)
    refine bodyPost_ret (results_ct rfl _ _ y 36 _ (0, 0) _ rfl b.out hu36 rfl rfl) rfl ?_
    obtain rfl := (Option.some.inj H.out)
    exact ⟨_, rfl, ⟨_, rfl, _, _, rfl, V.out.mono (fun k h1 _ => h1.1)⟩, s.out, I.out⟩
   ·have c9 : (u.f0 == kd) = false := by simp [h2]
    have H2 := H.out
    simp only [SP.bind, SP.top, h2, if_false, SP.ret, Option.some.injEq] at H2
    subst H2
    clear H h2
    clear i e t
    have i := b.e6
    have e := c.e6
    have t : o ≠ y ∧ y ≠ o := (by have D := Z.out; omega)
    go_wp2_with (first
     | ((with_reducible refine gate_dst (N := 18) rfl ?_); (try (refine gate_guard (by rfl) ?_; dsimp only)); apply kindE 18 s))
    have M := b.s6 (.int .i64 x.1.kind) (.string x.1.text) (.int .i64 x.1.place) (.int .i64 x.1.n) (.slice Ana x.1.names.length cna) (.slice Aka x.1.kids.length cka)
    clear b
    obtain ⟨C, A, p, b⟩ := M
    rw [A]
    clear A
    have D := Z.out
    replace I := I.f1 p (by omega)
    replace s := s.p1 p (by omega)
    replace G := G.n1 p (fun k hk => by omega)
    replace c := c.b1 p (by omega)
    clear D
    replace Z := Z.k p
    clear p
    clear i e t
    have i := b.e6
    have e := c.e6
    have t : o ≠ y ∧ y ≠ o := (by have D := Z.out; omega)
    refine bodyPost_ret (results_ct rfl _ _ y 36 _ (0, 0) _ rfl b.out hu36 rfl rfl) rfl ?_
    exact ⟨_, rfl, ⟨_, rfl, _, _, rfl, G.out.mono (fun k h1 _ => h1.1)⟩, s.out, I.out⟩
theorem tree_keyed.calls {B pb : Nat} {l : List S28} {d : Int} {r : Except (Int × Int) ((SP.Nd × Bool) × List S28)} (w : World) (h : PS B w pb l d)
  (hchain : ∀ w, PS B w pb l d → Calls Try.prog 74 #[.pointer (some ⟨pb, 0, none⟩), .int .i64 2, .bool true, .func (.func 75) #[.pointer (some ⟨pb, 0, none⟩)] #[]] w (Ans r B pb d w (fun x v w' => ∃ u, v = .tuple #[u, .bool x.2] ∧ NV (fun q => w.heap.size ≤ q) w' x.1 u))) :
  Calls Try.prog 69 #[.pointer (some ⟨pb, 0, none⟩)] w (Ans r B pb d w (fun x v w' => ∃ u, v = .tuple #[u, .bool x.2] ∧ NV (fun q => w.heap.size ≤ q) w' x.1 u)) := by
 have hu36 := Try.underlying36
 have hmf : ∀ (fn : Fn) (first cap : Array Value) (w : World), (Instr.makeFunc fn first cap).run Try.prog w = .ok (.func fn first cap) w := fun _ _ _ _ => rfl
 have m := Aside0.mk (Fr.refl (fun k => k = pb) w)
 have c := Aside0.mk h
 have Z := Aside0.mk (And.intro c.out.1 (And.intro c.out.2.1 (Nat.le_refl w.heap.size)))
 clear h
 go_enter Try.func69, Try.ntmps69
 go_wp2_with (first
  | ((with_reducible refine gate_dst (N := 2) rfl ?_); apply boxE 2 #[.int .i64 0, .string ⟨#[]⟩, .int .i64 0, .int .i64 0, .slice none 0 0, .slice none 0 0] 36; intro D G b i s; replace m := m.f0 i; replace c := c.p0 i; replace Z := Z.a s; clear s i; have e := b.e6)
  | ((with_reducible refine gate_dst (N := 7) rfl ?_); (try (refine gate_guard (by rfl) ?_; dsimp only)); apply goE 7 Try.func74 (hchain _ c.out); rintro J I t; rcases r with x_ | ⟨x, l2⟩; (obtain ⟨rfl, i⟩ := t; exact Or.inr ⟨_, rfl, rfl, rfl, m.out.then_ i (fun k hk => .inl hk)⟩); obtain ⟨v_, rfl, ⟨u_, rfl, nva, kva, rfl, j⟩, o, i⟩ := t; refine Or.inl ⟨_, rfl, ?_⟩; obtain ⟨Ana, cna, rfl, _⟩ := Kd.Q_slice j.1; obtain ⟨Aka, cka, rfl, _⟩ := Kd.Q_slice j.2; replace c := Aside0.mk o; have z := Z.out; replace m := m.f1 i (by omega); replace b := b.b1 i (by omega); clear z; replace Z := Z.k i; have p := Aside0.mk (j.mono (T := fun k => (G.heap.size ≤ k ∧ k < I.heap.size)) (fun k h1 h2 => ⟨h1, h2⟩)); clear o j i; clear e; have e := b.e6))
 have A := b.s6 (.int .i64 x.1.kind) (.string x.1.text) (.int .i64 x.1.place) (.int .i64 x.1.n) (.slice Ana x.1.names.length cna) (.slice Aka x.1.kids.length cka)
 clear b
 obtain ⟨M, y, i, b⟩ := A
 rw [y]
 clear y
 have z := Z.out
 replace m := m.f1 i (by omega)
 replace c := c.p1 i (by omega)
 replace p := p.n1 i (fun k hk => by omega)
 clear z
 replace Z := Z.k i
 clear i
 clear e
 have e := b.e6
 refine bodyPost_ret (results_ct rfl _ _ D 36 _ (0, 0) _ rfl b.out hu36 rfl rfl) rfl ?_
 exact ⟨_, rfl, ⟨_, rfl, _, _, rfl, p.out.mono (fun k h1 _ => (show w.heap.size ≤ k from by have z := Z.out; omega))⟩, c.out, m.out⟩
theorem tree_binary.calls {B pb : Nat} {l : List S28} {d : Int} {r : Except (Int × Int) ((SP.Nd × Bool) × List S28)} (w : World) (h : PS B w pb l d)
  (hchain : ∀ w, PS B w pb l d → Calls Try.prog 74 #[.pointer (some ⟨pb, 0, none⟩), .int .i64 3, .bool false, .func (.func 76) #[.pointer (some ⟨pb, 0, none⟩)] #[]] w (Ans r B pb d w (fun x v w' => ∃ u, v = .tuple #[u, .bool x.2] ∧ NV (fun q => w.heap.size ≤ q) w' x.1 u))) :
  Calls Try.prog 75 #[.pointer (some ⟨pb, 0, none⟩)] w (Ans r B pb d w (fun x v w' => ∃ u, v = .tuple #[u, .bool x.2] ∧ NV (fun q => w.heap.size ≤ q) w' x.1 u)) := by
 have hu36 := Try.underlying36
 have hmf : ∀ (fn : Fn) (first cap : Array Value) (w : World), (Instr.makeFunc fn first cap).run Try.prog w = .ok (.func fn first cap) w := fun _ _ _ _ => rfl
 have m := Aside0.mk (Fr.refl (fun k => k = pb) w)
 have c := Aside0.mk h
 have Z := Aside0.mk (And.intro c.out.1 (And.intro c.out.2.1 (Nat.le_refl w.heap.size)))
 clear h
 go_enter Try.func75, Try.ntmps75
 go_wp2_with (first
  | ((with_reducible refine gate_dst (N := 2) rfl ?_); apply boxE 2 #[.int .i64 0, .string ⟨#[]⟩, .int .i64 0, .int .i64 0, .slice none 0 0, .slice none 0 0] 36; intro D G b i s; replace m := m.f0 i; replace c := c.p0 i; replace Z := Z.a s; clear s i; have e := b.e6)
  | ((with_reducible refine gate_dst (N := 7) rfl ?_); (try (refine gate_guard (by rfl) ?_; dsimp only)); apply goE 7 Try.func74 (hchain _ c.out); rintro J I t; rcases r with x_ | ⟨x, l2⟩; (obtain ⟨rfl, i⟩ := t; exact Or.inr ⟨_, rfl, rfl, rfl, m.out.then_ i (fun k hk => .inl hk)⟩); obtain ⟨v_, rfl, ⟨u_, rfl, nva, kva, rfl, j⟩, o, i⟩ := t; refine Or.inl ⟨_, rfl, ?_⟩; obtain ⟨Ana, cna, rfl, _⟩ := Kd.Q_slice j.1; obtain ⟨Aka, cka, rfl, _⟩ := Kd.Q_slice j.2; replace c := Aside0.mk o; have z := Z.out; replace m := m.f1 i (by omega); replace b := b.b1 i (by omega); clear z; replace Z := Z.k i; have p := Aside0.mk (j.mono (T := fun k => (G.heap.size ≤ k ∧ k < I.heap.size)) (fun k h1 h2 => ⟨h1, h2⟩)); clear o j i; clear e; have e := b.e6))
 have A := b.s6 (.int .i64 x.1.kind) (.string x.1.text) (.int .i64 x.1.place) (.int .i64 x.1.n) (.slice Ana x.1.names.length cna) (.slice Aka x.1.kids.length cka)
 clear b
 obtain ⟨M, y, i, b⟩ := A
 rw [y]
 clear y
 have z := Z.out
 replace m := m.f1 i (by omega)
 replace c := c.p1 i (by omega)
 replace p := p.n1 i (fun k hk => by omega)
 clear z
 replace Z := Z.k i
 clear i
 clear e
 have e := b.e6
 refine bodyPost_ret (results_ct rfl _ _ D 36 _ (0, 0) _ rfl b.out hu36 rfl rfl) rfl ?_
 exact ⟨_, rfl, ⟨_, rfl, _, _, rfl, p.out.mono (fun k h1 _ => (show w.heap.size ≤ k from by have z := Z.out; omega))⟩, c.out, m.out⟩
theorem tree_unary.calls {B pb : Nat} {l : List S28} {d : Int} {r : Except (Int × Int) ((SP.Nd × Bool) × List S28)} (w : World) (h : PS B w pb l d)
  (hchain : ∀ w, PS B w pb l d → Calls Try.prog 74 #[.pointer (some ⟨pb, 0, none⟩), .int .i64 1, .bool false, .func (.func 80) #[.pointer (some ⟨pb, 0, none⟩)] #[]] w (Ans r B pb d w (fun x v w' => ∃ u, v = .tuple #[u, .bool x.2] ∧ NV (fun q => w.heap.size ≤ q) w' x.1 u))) :
  Calls Try.prog 76 #[.pointer (some ⟨pb, 0, none⟩)] w (Ans r B pb d w (fun x v w' => ∃ u, v = .tuple #[u, .bool x.2] ∧ NV (fun q => w.heap.size ≤ q) w' x.1 u)) := by
 have hu36 := Try.underlying36
 have hmf : ∀ (fn : Fn) (first cap : Array Value) (w : World), (Instr.makeFunc fn first cap).run Try.prog w = .ok (.func fn first cap) w := fun _ _ _ _ => rfl
 have m := Aside0.mk (Fr.refl (fun k => k = pb) w)
 have c := Aside0.mk h
 have Z := Aside0.mk (And.intro c.out.1 (And.intro c.out.2.1 (Nat.le_refl w.heap.size)))
 clear h
 go_enter Try.func76, Try.ntmps76
 go_wp2_with (first
  | ((with_reducible refine gate_dst (N := 2) rfl ?_); apply boxE 2 #[.int .i64 0, .string ⟨#[]⟩, .int .i64 0, .int .i64 0, .slice none 0 0, .slice none 0 0] 36; intro D G b i s; replace m := m.f0 i; replace c := c.p0 i; replace Z := Z.a s; clear s i; have e := b.e6)
  | ((with_reducible refine gate_dst (N := 7) rfl ?_); (try (refine gate_guard (by rfl) ?_; dsimp only)); apply goE 7 Try.func74 (hchain _ c.out); rintro J I t; rcases r with x_ | ⟨x, l2⟩; (obtain ⟨rfl, i⟩ := t; exact Or.inr ⟨_, rfl, rfl, rfl, m.out.then_ i (fun k hk => .inl hk)⟩); obtain ⟨v_, rfl, ⟨u_, rfl, nva, kva, rfl, j⟩, o, i⟩ := t; refine Or.inl ⟨_, rfl, ?_⟩; obtain ⟨Ana, cna, rfl, _⟩ := Kd.Q_slice j.1; obtain ⟨Aka, cka, rfl, _⟩ := Kd.Q_slice j.2; replace c := Aside0.mk o; have z := Z.out; replace m := m.f1 i (by omega); replace b := b.b1 i (by omega); clear z; replace Z := Z.k i; have p := Aside0.mk (j.mono (T := fun k => (G.heap.size ≤ k ∧ k < I.heap.size)) (fun k h1 h2 => ⟨h1, h2⟩)); clear o j i; clear e; have e := b.e6))
 have A := b.s6 (.int .i64 x.1.kind) (.string x.1.text) (.int .i64 x.1.place) (.int .i64 x.1.n) (.slice Ana x.1.names.length cna) (.slice Aka x.1.kids.length cka)
 clear b
 obtain ⟨M, y, i, b⟩ := A
 rw [y]
 clear y
 have z := Z.out
 replace m := m.f1 i (by omega)
 replace c := c.p1 i (by omega)
 replace p := p.n1 i (fun k hk => by omega)
 clear z
 replace Z := Z.k i
 clear i
 clear e
 have e := b.e6
 refine bodyPost_ret (results_ct rfl _ _ D 36 _ (0, 0) _ rfl b.out hu36 rfl rfl) rfl ?_
 exact ⟨_, rfl, ⟨_, rfl, _, _, rfl, p.out.mono (fun k h1 _ => (show w.heap.size ≤ k from by have z := Z.out; omega))⟩, c.out, m.out⟩
theorem tree_keyed.step {k : Nat} (ihb : CB 75 SP.binary k) (ihs : ∀ j, j ≤ k → CS j) : CB 69 SP.keyed (k + 1) := by
 intro B pb d l r w hr h
 unfold SP.keyed at hr
 cases he : SP.binary k d l with
 | none => rw [he] at hr; simp [SP.bind] at hr
 | some r0 =>
  refine tree_keyed.calls w h (fun w h => ?_)
  exact tree_chain.once Try.func75 (by kernel_rfl) rfl ihs w h (fun w h => ihb _ _ _ _ _ _ he h) ⟨hr⟩ he
theorem tree_binary.step {k : Nat} (ihu : CB 76 SP.unary k) (ihs : ∀ j, j ≤ k → CS j) : CB 75 SP.binary (k + 1) := by
 intro B pb d l r w hr h
 unfold SP.binary at hr
 cases he : SP.unary k d l with
 | none => rw [he] at hr; simp [SP.bind] at hr
 | some r0 =>
  refine tree_binary.calls w h (fun w h => ?_)
  exact tree_chain.many Try.func76 (by kernel_rfl) rfl ihs w h (fun w h => ihu _ _ _ _ _ _ he h) ⟨hr⟩ he
theorem tree_unary.step {k : Nat} (ihp : CB 80 SP.prim k) (ihs : ∀ j, j ≤ k → CS j) : CB 76 SP.unary (k + 1) := by
 intro B pb d l r w hr h
 unfold SP.unary at hr
 cases he : SP.prim k d l with
 | none => rw [he] at hr; simp [SP.bind] at hr
 | some r0 =>
  refine tree_unary.calls w h (fun w h => ?_)
  exact tree_chain.many Try.func80 (by kernel_rfl) rfl ihs w h (fun w h => ihp _ _ _ _ _ _ he h) ⟨hr⟩ he
end Go.Proofs.Ytpodpmjlkbbkoaa.P
set_option maxHeartbeats 16000000
set_option maxRecDepth 100000
namespace Go.Proofs.Ytpodpmjlkbbkoaa.P
open Go.RowKit Go.Proofs.YtpodpmjlkbbkoaaW.PrintWords Go.Proofs.YtpodpmjlkbbkoaaW.PrintLast Go.Proofs.YtpodpmjlkbbkoaaW.PrintMore
variable [Low]
attribute [local go_sem] field64_1 field64_2
omit [Low] in
theorem newP_ {P : Program} {ops : Array Oper} {Q : Exit → Act → World → Prop} {oi : Oper} {N : Option Tmp} {a : Act} {W : World} {K : Act → World → Prop} {cs : Array Value} {t : TypeId}
  (hw : Region.wanted oi (yielded ops a.tmps) = true) (hN : oi.dst = N) (hrun : (execOp a.eval oi).run P W = .ok (.value (.pointer (some ⟨W.heap.size, 0, none⟩))) (W.alloc (.cells cs t (0, 0))))
  (h : ∀ g, g = W.heap.size → ∀ w1, w1.heap[g]? = some (.cells cs t (0, 0)) → Below W.heap.size W w1 → K (a.put N (.pointer (some ⟨g, 0, none⟩))) w1) : if Region.wanted oi (yielded ops a.tmps) = true then Oper.wp P oi a W K Q else K (a.put N undef) W :=
 value_ hw hN hrun (h _ rfl _ (blk_new W _) (below_alloc (Below.refl _ _) _))
omit [Low] in
theorem newN_ {P : Program} {ops : Array Oper} {Q : Exit → Act → World → Prop} {oi : Oper} {N : Option Tmp} {a : Act} {W : World} {K : Act → World → Prop} {cs : Array Value} {t : TypeId} {n : Nat}
  (hw : Region.wanted oi (yielded ops a.tmps) = true) (hN : oi.dst = N) (hrun : (execOp a.eval oi).run P W = .ok (.value (.slice (some ⟨W.heap.size, 0, none⟩) n n)) (W.alloc (.cells cs t (0, 0))))
  (h : ∀ g, g = W.heap.size → ∀ w1, w1.heap[g]? = some (.cells cs t (0, 0)) → Below W.heap.size W w1 → K (a.put N (.slice (some ⟨g, 0, none⟩) n n)) w1) : if Region.wanted oi (yielded ops a.tmps) = true then Oper.wp P oi a W K Q else K (a.put N undef) W :=
 value_ hw hN hrun (h _ rfl _ (blk_new W _) (below_alloc (Below.refl _ _) _))
def NdAt (w : World) (g o : Nat) (x : SP.Nd) (nv kv : Value) : Prop := w.cell? ⟨g, o, none⟩ = some (.int .i64 x.kind) ∧ w.cell? ⟨g, o + 1, none⟩ = some (.string x.text) ∧ w.cell? ⟨g, o + 2, none⟩ = some (.int .i64 x.place) ∧ w.cell? ⟨g, o + 3, none⟩ = some (.int .i64 x.n) ∧ w.cell? ⟨g, o + 4, none⟩ = some nv ∧ w.cell? ⟨g, o + 5, none⟩ = some kv
omit [Low] in
theorem Fr.at_ {X : Nat → Prop} {w w' : World} {g o : Nat} {x : SP.Nd} {nv kv : Value} (hf : Fr X w w') (h : NdAt w g o x nv kv) (hg : ¬ X g) : NdAt w' g o x nv kv := by
 obtain ⟨h0, h1, h2, h3, h4, h5⟩ := h
 exact ⟨cell_kept h0 hf.2 hg, cell_kept h1 hf.2 hg, cell_kept h2 hf.2 hg, cell_kept h3 hf.2 hg, cell_kept h4 hf.2 hg, cell_kept h5 hf.2 hg⟩
omit [Low] in
theorem kid_first {S : Nat → Prop} {w : World} {A : Option Addr} {c n : Nat} {x : SP.Nd} {xs : List SP.Nd} (h : kNd.Q 36 w 0 S (.slice A n c) (x :: xs)) : ∃ g o An cn Ak ck, A = some ⟨g, o, none⟩ ∧ S g ∧ g < w.heap.size ∧ 1 ≤ c ∧ NdAt w g o x (.slice An x.names.length cn) (.slice Ak x.kids.length ck) ∧ NQ S w x (.slice An x.names.length cn) (.slice Ak x.kids.length ck) ∧ kNd.Q 36 w 0 S (.slice (if c = 1 then some ⟨g, o, none⟩ else some ⟨g, o + 6, none⟩) xs.length (c - 1)) xs := by
 obtain ⟨g, o, cap, e, _, hlt, _⟩ := Kd.Q_form h (by simp)
 injection e with hA hn hc
 subst hA; subst hn; subst hc
 obtain ⟨cs, hl, hM, hcell, _⟩ := Kd.Q_elem h zNd 0 (Int.le_refl _) (by simp)
 have hM2 : kNd.M w 0 S x cs := kNd.M_mono (fun k hk => hk.1) hM
 obtain ⟨nv, kv, rfl, hq1, hq2⟩ := kNd_M.1 hM2
 obtain ⟨An, cn, rfl, _⟩ := Kd.Q_slice hq1
 obtain ⟨Ak, ck, rfl, _⟩ := Kd.Q_slice hq2
 have hz : ∀ j, o + (0 : Int).toNat * kNd.sz + j = o + j := fun j => by simp
 refine ⟨g, o, An, cn, Ak, ck, rfl, h.1 g rfl, hlt, ?_, ⟨?_, ?_, ?_, ?_, ?_, ?_⟩, ⟨hq1, hq2⟩, ?_⟩
 ·have := (Kd.Q_reads' h).2.1
  simp at this
  omega
 ·have := hcell 0 _ rfl; rwa [hz] at this
 ·have := hcell 1 _ rfl; rwa [hz] at this
 ·have := hcell 2 _ rfl; rwa [hz] at this
 ·have := hcell 3 _ rfl; rwa [hz] at this
 ·have := hcell 4 _ rfl; rwa [hz] at this
 ·have := hcell 5 _ rfl; rwa [hz] at this
 ·have hd := Kd.Q_drop (k := 1) h (by simp)
  have e : (if c = 1 then (some ⟨g, o, none⟩ : Option Addr) else some ⟨g, o + 6, none⟩) = (if c = 1 then some ⟨g, o, none⟩ else (some ⟨g, o, none⟩ : Option Addr).map (·.add (1 * kNd.sz))) := by
   split
   ·rfl
   ·have h6 : kNd.sz = 6 := rfl
    rw [h6, Option.map_some, add_at]
  rw [e]
  exact hd
omit [Low] in
theorem row_two {S T1 T2 : Nat → Prop} {w : World} {b : Nat} {x y : SP.Nd} {nv kv nv2 kv2 : Value} (hb : w.heap[b]? = some (.cells #[.int .i64 x.kind, .string x.text, .int .i64 x.place, .int .i64 x.n, nv, kv, .int .i64 y.kind, .string y.text, .int .i64 y.place, .int .i64 y.n, nv2, kv2] 36 (0, 0))) (hx : NQ T1 w x nv kv) (hy : NQ T2 w y nv2 kv2) (hT1 : ∀ k, T1 k → S k ∧ k ≠ b) (hT2 : ∀ k, T2 k → S k ∧ k ≠ b) (hS : S b) : kNd.Q 36 w 0 S (.slice (some ⟨b, 0, none⟩) 2 2) [x, y] :=
 row_lits (xs := [x, y]) hb (Reps.snoc (ps := [x]) (Reps.snoc (Reps.none _ _) (kNd.M_mono hT1 hx.M) rfl) (kNd.M_mono hT2 hy.M) rfl) (by simp) hS
theorem tree_cascade.plain {k : Nat} (ihk : CB 69 SP.keyed k) {B pb : Nat} {l : List S28} {d : Int} {r : Except (Int × Int) (SP.Nd × List S28)} {r0 : Except (Int × Int) ((SP.Nd × Bool) × List S28)} (w : World) (h : PS B w pb l d) (hx : SP.keyed k d l = some r0) (hbad : ∀ y, r0 = .error y → r = .error y) (hok : ∀ x l2, r0 = .ok (x, l2) → ∃ u l1, l2 = u :: l1 ∧ (u.f0 != 15) = true ∧ r = .ok (x.1, l2)) :
  Calls Try.prog 64 #[.pointer (some ⟨pb, 0, none⟩)] w (Ans r B pb d w (fun x v w' => NV (fun q => w.heap.size ≤ q) w' x v)) := by
 have hu36 := Try.underlying36
 have s := Aside0.mk (Fr.refl (fun k => k = pb) w)
 have i := Aside0.mk h
 have Z := Aside0.mk (And.intro i.out.1 (And.intro i.out.2.1 (Nat.le_refl w.heap.size)))
 clear h
 go_enter Try.func64, Try.ntmps64
 go_wp2_with (first
  | ((with_reducible refine gate_dst (N := 2) rfl ?_); apply boxE 2 #[.int .i64 0, .string ⟨#[]⟩, .int .i64 0, .int .i64 0, .slice none 0 0, .slice none 0 0] 36; intro I U b e t; replace s := s.f0 e; replace i := i.p0 e; replace Z := Z.a t; clear t e; have c := b.e6)
  | ((with_reducible refine gate_dst (N := 9) rfl ?_); (try (refine gate_guard (by rfl) ?_; dsimp only)); apply goE 9 Try.func69 (ihk _ _ _ _ _ _ hx i.out); rintro W V O; rcases r0 with x_ | ⟨x, l2⟩; (obtain ⟨rfl, e⟩ := O; have H_ := hbad x_ rfl; subst H_; exact Or.inr ⟨_, rfl, rfl, rfl, s.out.then_ e (fun k hk => .inl hk)⟩); obtain ⟨v_, rfl, ⟨u_, rfl, nva, kva, rfl, p⟩, G, e⟩ := O; refine Or.inl ⟨_, rfl, ?_⟩; obtain ⟨Ana, cna, rfl, _⟩ := Kd.Q_slice p.1; obtain ⟨Aka, cka, rfl, _⟩ := Kd.Q_slice p.2; replace i := Aside0.mk G; have A := Z.out; replace s := s.f1 e (by omega); replace b := b.b1 e (by omega); clear A; replace Z := Z.k e; have o := Aside0.mk (p.mono (T := fun k => (U.heap.size ≤ k ∧ k < V.heap.size)) (fun k h1 h2 => ⟨h1, h2⟩)); clear G p e; clear c; have c := b.e6; obtain ⟨u, l1, rfl, hgood⟩ := hok x l2 rfl)
  | ((with_reducible refine gate_dst (N := 3) rfl ?_); apply boxE 3 #[.int .i64 0, .string ⟨#[]⟩, .int .i64 0, .int .i64 0, .slice none 0 0, .slice none 0 0] 36; intro M Y j e t; replace s := s.f0 e; replace i := i.p0 e; replace b := b.b0 e; replace o := o.n0 e; replace Z := Z.a t; clear t e; clear c; have c := b.e6; have m := j.e6; have D : I ≠ M ∧ M ≠ I := (by have A := Z.out; omega))
  | ((with_reducible refine gate_dst (N := 13) rfl ?_); (try (refine gate_guard (by rfl) ?_; dsimp only)); have J := j.s6 (.int .i64 x.1.kind) (.string x.1.text) (.int .i64 x.1.place) (.int .i64 x.1.n) (.slice Ana x.1.names.length cna) (.slice Aka x.1.kids.length cka); clear j; obtain ⟨X, z, e, j⟩ := J; rw [z]; clear z; have A := Z.out; replace s := s.f1 e (by omega); replace i := i.p1 e (by omega); replace b := b.b1 e (by omega); replace o := o.n1 e (fun k hk => by omega); clear A; replace Z := Z.k e; clear e; clear c m D; have c := b.e6; have m := j.e6; have D : I ≠ M ∧ M ≠ I := (by have A := Z.out; omega); apply kindE 13 i; obtain ⟨c15, rfl⟩ := hgood))
 have J := b.s6 (.int .i64 x.1.kind) (.string x.1.text) (.int .i64 x.1.place) (.int .i64 x.1.n) (.slice Ana x.1.names.length cna) (.slice Aka x.1.kids.length cka)
 clear b
 obtain ⟨C, z, e, b⟩ := J
 rw [z]
 clear z
 have A := Z.out
 replace s := s.f1 e (by omega)
 replace i := i.p1 e (by omega)
 replace o := o.n1 e (fun k hk => by omega)
 replace j := j.b1 e (by omega)
 clear A
 replace Z := Z.k e
 clear e
 clear c m D
 have c := b.e6
 have m := j.e6
 have D : I ≠ M ∧ M ≠ I := (by have A := Z.out; omega)
 refine bodyPost_ret (results_c rfl _ _ I 36 _ (0, 0) _ rfl b.out hu36 rfl rfl) rfl ?_
 exact ⟨_, rfl, ⟨_, _, rfl, o.out.mono (fun k h1 _ => (show w.heap.size ≤ k from by have A := Z.out; omega))⟩, i.out, s.out⟩
theorem tree_cascade.poor1 {k : Nat} (ihk : CB 69 SP.keyed k) {B pb : Nat} {l : List S28} {d : Int} {r : Except (Int × Int) (SP.Nd × List S28)} {r0 : Except (Int × Int) ((SP.Nd × Bool) × List S28)} (w : World) (h : PS B w pb l d) (hx : SP.keyed k d l = some r0) (hbad : ∀ y, r0 = .error y → r = .error y) (hok : ∀ x l2, r0 = .ok (x, l2) → ∃ u l1, l2 = u :: l1 ∧ (u.f0 != 15) = false ∧ (x.1.kind != 7) = true ∧ r = .error (u.f2, 20)) :
  Calls Try.prog 64 #[.pointer (some ⟨pb, 0, none⟩)] w (Ans r B pb d w (fun x v w' => NV (fun q => w.heap.size ≤ q) w' x v)) := by
 have hu36 := Try.underlying36
 have s := Aside0.mk (Fr.refl (fun k => k = pb) w)
 have e := Aside0.mk h
 have Z := Aside0.mk (And.intro e.out.1 (And.intro e.out.2.1 (Nat.le_refl w.heap.size)))
 clear h
 go_enter Try.func64, Try.ntmps64
 go_wp2_with (first
  | ((with_reducible refine gate_dst (N := 2) rfl ?_); apply boxE 2 #[.int .i64 0, .string ⟨#[]⟩, .int .i64 0, .int .i64 0, .slice none 0 0, .slice none 0 0] 36; intro J U b i o; replace s := s.f0 i; replace e := e.p0 i; replace Z := Z.a o; clear o i; have c := b.e6)
  | ((with_reducible refine gate_dst (N := 9) rfl ?_); (try (refine gate_guard (by rfl) ?_; dsimp only)); apply goE 9 Try.func69 (ihk _ _ _ _ _ _ hx e.out); rintro W V A; rcases r0 with x_ | ⟨x, l2⟩; (obtain ⟨rfl, i⟩ := A; have H_ := hbad x_ rfl; subst H_; exact Or.inr ⟨_, rfl, rfl, rfl, s.out.then_ i (fun k hk => .inl hk)⟩); obtain ⟨v_, rfl, ⟨u_, rfl, nva, kva, rfl, m⟩, z, i⟩ := A; refine Or.inl ⟨_, rfl, ?_⟩; obtain ⟨Ana, cna, rfl, _⟩ := Kd.Q_slice m.1; obtain ⟨Aka, cka, rfl, _⟩ := Kd.Q_slice m.2; replace e := Aside0.mk z; have D := Z.out; replace s := s.f1 i (by omega); replace b := b.b1 i (by omega); clear D; replace Z := Z.k i; have t := Aside0.mk (m.mono (T := fun k => (U.heap.size ≤ k ∧ k < V.heap.size)) (fun k h1 h2 => ⟨h1, h2⟩)); clear z m i; clear c; have c := b.e6; obtain ⟨u, l1, rfl, hgood⟩ := hok x l2 rfl)
  | ((with_reducible refine gate_dst (N := 3) rfl ?_); apply boxE 3 #[.int .i64 0, .string ⟨#[]⟩, .int .i64 0, .int .i64 0, .slice none 0 0, .slice none 0 0] 36; intro M Y j i o; replace s := s.f0 i; replace e := e.p0 i; replace b := b.b0 i; replace t := t.n0 i; replace Z := Z.a o; clear o i; clear c; have c := b.e6; have p := j.e6; have G : J ≠ M ∧ M ≠ J := (by have D := Z.out; omega))
  | ((with_reducible refine gate_dst (N := 13) rfl ?_); (try (refine gate_guard (by rfl) ?_; dsimp only)); have O := j.s6 (.int .i64 x.1.kind) (.string x.1.text) (.int .i64 x.1.place) (.int .i64 x.1.n) (.slice Ana x.1.names.length cna) (.slice Aka x.1.kids.length cka); clear j; obtain ⟨X, I, i, j⟩ := O; rw [I]; clear I; have D := Z.out; replace s := s.f1 i (by omega); replace e := e.p1 i (by omega); replace b := b.b1 i (by omega); replace t := t.n1 i (fun k hk => by omega); clear D; replace Z := Z.k i; clear i; clear c p G; have c := b.e6; have p := j.e6; have G : J ≠ M ∧ M ≠ J := (by have D := Z.out; omega); apply kindE 13 e; obtain ⟨c15, c7, rfl⟩ := hgood)
  | ((with_reducible refine gate_dst (N := 24) rfl ?_); (try (refine gate_guard (by rfl) ?_; dsimp only)); apply badE 24 20 e))
 exact ⟨rfl, rfl, s.out⟩
theorem tree_cascade.poor2 {k : Nat} (ihk : CB 69 SP.keyed k) {B pb : Nat} {l : List S28} {d : Int} {r : Except (Int × Int) (SP.Nd × List S28)} {r0 : Except (Int × Int) ((SP.Nd × Bool) × List S28)} (w : World) (h : PS B w pb l d) (hx : SP.keyed k d l = some r0) (hbad : ∀ y, r0 = .error y → r = .error y) (hok : ∀ x l2, r0 = .ok (x, l2) → ∃ u l1, l2 = u :: l1 ∧ (u.f0 != 15) = false ∧ (x.1.kind != 7) = false ∧ x.2 = false ∧ r = .error (u.f2, 20)) :
  Calls Try.prog 64 #[.pointer (some ⟨pb, 0, none⟩)] w (Ans r B pb d w (fun x v w' => NV (fun q => w.heap.size ≤ q) w' x v)) := by
 have hu36 := Try.underlying36
 have s := Aside0.mk (Fr.refl (fun k => k = pb) w)
 have e := Aside0.mk h
 have Z := Aside0.mk (And.intro e.out.1 (And.intro e.out.2.1 (Nat.le_refl w.heap.size)))
 clear h
 go_enter Try.func64, Try.ntmps64
 go_wp2_with (first
  | ((with_reducible refine gate_dst (N := 2) rfl ?_); apply boxE 2 #[.int .i64 0, .string ⟨#[]⟩, .int .i64 0, .int .i64 0, .slice none 0 0, .slice none 0 0] 36; intro J U b i o; replace s := s.f0 i; replace e := e.p0 i; replace Z := Z.a o; clear o i; have c := b.e6)
  | ((with_reducible refine gate_dst (N := 9) rfl ?_); (try (refine gate_guard (by rfl) ?_; dsimp only)); apply goE 9 Try.func69 (ihk _ _ _ _ _ _ hx e.out); rintro W V A; rcases r0 with x_ | ⟨x, l2⟩; (obtain ⟨rfl, i⟩ := A; have H_ := hbad x_ rfl; subst H_; exact Or.inr ⟨_, rfl, rfl, rfl, s.out.then_ i (fun k hk => .inl hk)⟩); obtain ⟨v_, rfl, ⟨u_, rfl, nva, kva, rfl, m⟩, z, i⟩ := A; refine Or.inl ⟨_, rfl, ?_⟩; obtain ⟨Ana, cna, rfl, _⟩ := Kd.Q_slice m.1; obtain ⟨Aka, cka, rfl, _⟩ := Kd.Q_slice m.2; replace e := Aside0.mk z; have D := Z.out; replace s := s.f1 i (by omega); replace b := b.b1 i (by omega); clear D; replace Z := Z.k i; have t := Aside0.mk (m.mono (T := fun k => (U.heap.size ≤ k ∧ k < V.heap.size)) (fun k h1 h2 => ⟨h1, h2⟩)); clear z m i; clear c; have c := b.e6; obtain ⟨u, l1, rfl, hgood⟩ := hok x l2 rfl)
  | ((with_reducible refine gate_dst (N := 3) rfl ?_); apply boxE 3 #[.int .i64 0, .string ⟨#[]⟩, .int .i64 0, .int .i64 0, .slice none 0 0, .slice none 0 0] 36; intro M Y j i o; replace s := s.f0 i; replace e := e.p0 i; replace b := b.b0 i; replace t := t.n0 i; replace Z := Z.a o; clear o i; clear c; have c := b.e6; have p := j.e6; have G : J ≠ M ∧ M ≠ J := (by have D := Z.out; omega))
  | ((with_reducible refine gate_dst (N := 13) rfl ?_); (try (refine gate_guard (by rfl) ?_; dsimp only)); have O := j.s6 (.int .i64 x.1.kind) (.string x.1.text) (.int .i64 x.1.place) (.int .i64 x.1.n) (.slice Ana x.1.names.length cna) (.slice Aka x.1.kids.length cka); clear j; obtain ⟨X, I, i, j⟩ := O; rw [I]; clear I; have D := Z.out; replace s := s.f1 i (by omega); replace e := e.p1 i (by omega); replace b := b.b1 i (by omega); replace t := t.n1 i (fun k hk => by omega); clear D; replace Z := Z.k i; clear i; clear c p G; have c := b.e6; have p := j.e6; have G : J ≠ M ∧ M ≠ J := (by have D := Z.out; omega); apply kindE 13 e; obtain ⟨c15, c7, cp, rfl⟩ := hgood)
  | ((with_reducible refine gate_dst (N := 24) rfl ?_); (try (refine gate_guard (by rfl) ?_; dsimp only)); apply badE 24 20 e))
 exact ⟨rfl, rfl, s.out⟩
omit [Low] in
theorem kids_cut (g o n c : Nat) (W : World) : (Instr.slice 34 (.slice (some ⟨g, o, none⟩) (n + 1) c) (some (.int .i64 1)) none none).run Try.prog W = .ok (.slice (if c = 1 then (some ⟨g, o, none⟩ : Option Addr) else some ⟨g, o + 6, none⟩) n (c - 1)) W := by
 obtain ⟨i0, hi, hzz⟩ := Option.map_eq_some_iff.1 info36
 simp only [Prod.mk.injEq] at hzz
 have h := cut_from (P := Try.prog) 34 36 .i64 Try.underlying34 hi 6 hzz.2.1 (some ⟨g, o, none⟩) (n + 1) c 1 (by decide) (by omega) W
 have e : (Option.map (fun x : Addr => x.add ((1 : Int).toNat * 6)) (some ⟨g, o, none⟩)) = some ⟨g, o + 6, none⟩ := by
  rw [Option.map_some, add_at]
  rfl
 rw [e] at h
 exact h
theorem tree_cascade.good {k : Nat} (ihm : ∀ j, j ≤ k → CN 70 SP.msg j) (hk : k ≤ 1073741824) (ihk : CB 69 SP.keyed k) {B pb : Nat} {l : List S28} {d : Int} {r : Except (Int × Int) (SP.Nd × List S28)} {r0 : Except (Int × Int) ((SP.Nd × Bool) × List S28)} (w : World) (h : PS B w pb l d) (hx : SP.keyed k d l = some r0) (hbad : ∀ y, r0 = .error y → r = .error y) (hok : ∀ x l2, r0 = .ok (x, l2) → ∃ u l1, l2 = u :: l1 ∧ (u.f0 != 15) = false ∧ (x.1.kind != 7) = false ∧ x.2 = true ∧ ∃ rcv rr, x.1.kids = rcv :: rr ∧ SP.bind (SP.cascs k d l2 [rcv, SP.Nd.mk 9 x.1.text x.1.place 0 [] rr]) (fun ks l3 => SP.ret (SP.Nd.mk 8 SP.E x.1.place 0 [] ks) l3) = some r) :
  Calls Try.prog 64 #[.pointer (some ⟨pb, 0, none⟩)] w (Ans r B pb d w (fun x v w' => NV (fun q => w.heap.size ≤ q) w' x v)) := by
 have hu36 := Try.underlying36
 have U := Aside0.mk (Fr.refl (fun k => k = pb) w)
 have D := Aside0.mk h
 have Z := Aside0.mk (And.intro D.out.1 (And.intro D.out.2.1 (Nat.le_refl w.heap.size)))
 clear h
 go_enter Try.func64, Try.ntmps64
 go_wp2_with (first
  | ((with_reducible refine gate_dst (N := 2) rfl ?_); apply boxE 2 #[.int .i64 0, .string ⟨#[]⟩, .int .i64 0, .int .i64 0, .slice none 0 0, .slice none 0 0] 36; intro L v1 e b a8; replace U := U.f0 b; replace D := D.p0 b; replace Z := Z.a a8; clear a8 b; have I := e.e6)
  | ((with_reducible refine gate_dst (N := 9) rfl ?_); (try (refine gate_guard (by rfl) ?_; dsimp only)); apply goE 9 Try.func69 (ihk _ _ _ _ _ _ hx D.out); rintro e_ v2 a9; rcases r0 with x_ | ⟨x, l2⟩; (obtain ⟨rfl, b⟩ := a9; have H_ := hbad x_ rfl; subst H_; exact Or.inr ⟨_, rfl, rfl, rfl, U.out.then_ b (fun k hk => .inl hk)⟩); obtain ⟨v_, rfl, ⟨u_, rfl, nva, kva, rfl, a0⟩, a2, b⟩ := a9; refine Or.inl ⟨_, rfl, ?_⟩; obtain ⟨Ana, cna, rfl, _⟩ := Kd.Q_slice a0.1; obtain ⟨Aka, cka, rfl, _⟩ := Kd.Q_slice a0.2; replace D := Aside0.mk a2; have X := Z.out; replace U := U.f1 b (by omega); replace e := e.b1 b (by omega); clear X; replace Z := Z.k b; have c5 := Aside0.mk (a0.mono (T := fun k => (v1.heap.size ≤ k ∧ k < v2.heap.size)) (fun k h1 h2 => ⟨h1, h2⟩)); clear a2 a0 b; clear I; have I := e.e6; obtain ⟨u, l1, rfl, c15, c7, cp, rcv, rr, hkids, hcs⟩ := hok x l2 rfl; have Hcs := Aside0.mk hcs; clear hcs; have c1 := (show kNd.Q 36 v2 0 _ (.slice Aka x.1.kids.length cka) (rcv :: rr) from (by rw [← hkids]; exact c5.out.2)); obtain ⟨gR, oR, Anr, cnr, Akr, ckr, d3, hSg_, c2, hc1_, hat_, hnr_, hqr_⟩ := kid_first c1; subst d3; obtain ⟨nx, hnx⟩ : ∃ v, v = (if cka = 1 then (some ⟨gR, oR, none⟩ : Option Addr) else some ⟨gR, oR + 6, none⟩) := ⟨_, rfl⟩; rw [← hnx] at hqr_; have ATr := Aside0.mk hat_; have C := Aside0.mk hnr_; have QR := Aside0.mk hqr_; replace Z := Aside0.mk (And.intro hSg_ (And.intro c2 Z.out)); have hkl := Aside0.mk (show x.1.kids.length = rr.length + 1 from (by rw [hkids]; rfl)); have hkl0 : (0 : Int) < (x.1.kids.length : Int) := (by have := hkl.out; omega); have hkl1 : 0 < x.1.kids.length := (by have := hkl.out; omega); have hcut : ∀ W : World, (Instr.slice 34 (.slice (some ⟨gR, oR, none⟩) x.1.kids.length cka) (some (.int .i64 1)) none none).run Try.prog W = .ok (.slice nx rr.length (cka - 1)) W := (by rw [hkl.out, hnx]; exact kids_cut gR oR rr.length cka); replace hnx := Aside0.mk hnx; clear c1 hat_ hnr_ hqr_ hSg_ c2 hkids; clear c5)
  | ((with_reducible refine gate_dst (N := 3) rfl ?_); apply boxE 3 #[.int .i64 0, .string ⟨#[]⟩, .int .i64 0, .int .i64 0, .slice none 0 0, .slice none 0 0] 36; intro R v3 o b a8; replace U := U.f0 b; replace D := D.p0 b; replace e := e.b0 b; replace ATr := Aside0.mk (b.at_ ATr.out (fun h => h)); replace C := C.n0 b; replace QR := QR.q0 b; replace Z := Z.a a8; clear a8 b; clear I; have I := e.e6; have a1 := o.e6; have a4 : L ≠ R ∧ R ≠ L := (by have X := Z.out; omega))
  | ((with_reducible refine gate_dst (N := 13) rfl ?_); (try (refine gate_guard (by rfl) ?_; dsimp only)); have a5 := o.s6 (.int .i64 x.1.kind) (.string x.1.text) (.int .i64 x.1.place) (.int .i64 x.1.n) (.slice Ana x.1.names.length cna) (.slice (some ⟨gR, oR, none⟩) x.1.kids.length cka); clear o; obtain ⟨v4, M, b, o⟩ := a5; rw [M]; clear M; have X := Z.out; replace U := U.f1 b (by omega); replace D := D.p1 b (by omega); replace e := e.b1 b (by omega); replace ATr := Aside0.mk (b.at_ ATr.out (show ¬ (gR = R) from by omega)); replace C := C.n1 b (fun k hk => by omega); replace QR := QR.q1 b (fun k hk => by omega); clear X; replace Z := Z.k b; clear b; clear I a1 a4; have I := e.e6; have a1 := o.c6; have a4 : L ≠ R ∧ R ≠ L := (by have X := Z.out; omega); apply kindE 13 D))
 refine start_ (n := 10) (S := fun w' => (w'.cell? ⟨R, 1, none⟩ = some (.string x.1.text)) ∧ (w'.cell? ⟨R, 2, none⟩ = some (.int .i64 x.1.place)) ∧ (w'.cell? ⟨R, 5, none⟩ = some (.slice (some ⟨gR, oR, none⟩) x.1.kids.length cka))) (ds := [9]) #[false, false, false, false, false, false, false, false, false, false] (by kernel_rfl) rfl rfl (show ((World.drew v4).cell? ⟨R, 1, none⟩ = some (.string x.1.text)) ∧ ((World.drew v4).cell? ⟨R, 2, none⟩ = some (.int .i64 x.1.place)) ∧ ((World.drew v4).cell? ⟨R, 5, none⟩ = some (.slice (some ⟨gR, oR, none⟩) x.1.kids.length cka)) from ⟨(blk_cell o.out 1).trans rfl, (blk_cell o.out 2).trans rfl, (blk_cell o.out 5).trans rfl⟩) (fun G => ?_)
 obtain ⟨v5, M⟩ : ∃ W_, W_ = World.drew v4 := ⟨_, rfl⟩
 rw [← M] at G ⊢
 have b : Fr (fun _ => False) v4 v5 := (by rw [M]; exact (Fr.refl _ _).drew)
 replace U := U.f0 b
 replace D := D.p0 b
 replace e := e.b0 b
 replace ATr := Aside0.mk (b.at_ ATr.out (fun h => h))
 replace C := C.n0 b
 replace QR := QR.q0 b
 replace o := o.b0 b
 replace Z := Z.k b
 clear b M
 clear I a1 a4
 apply puA 0 25
 apply puA 2 27
 apply puA 4 29
 apply tkA 1 26 G
 apply tkA 3 28 G
 apply tkA 5 30 G
 apply puA 6 31
 apply puA 7 32
 apply oN 8 (some 5); intro K hK
 refine newP_ (cs := #[.int .i64 0, .string ⟨#[]⟩, .int .i64 0, .int .i64 0, .slice none 0 0, .slice none 0 0]) (t := 36) (by rfl) rfl ?hr ?_
 (case hr => first | (go_simp; done) | (go_simp; rfl))
 intro V O v6 s Y
 have b : Fr (fun _ => False) v5 v6 := Fr.of_below Y
 replace U := U.f0 b
 replace D := D.p0 b
 replace e := e.b0 b
 replace ATr := Aside0.mk (b.at_ ATr.out (fun h => h))
 replace C := C.n0 b
 replace QR := QR.q0 b
 replace o := o.b0 b
 replace Z := Z.k b
 replace Z := Aside0.mk (And.intro (Nat.le_of_eq O.symm) Z.out)
 replace Z := Aside0.mk (And.intro (Nat.le_of_eq O) Z.out)
 replace Z := Aside0.mk (And.intro (blk_lt s) Z.out)
 have c := Aside0.mk s
 clear O s Y b
 refine hK.out _ _ (show (v6.cell? ⟨R, 1, none⟩ = some (.string x.1.text)) ∧ (v6.cell? ⟨R, 2, none⟩ = some (.int .i64 x.1.place)) ∧ (v6.cell? ⟨R, 5, none⟩ = some (.slice (some ⟨gR, oR, none⟩) x.1.kids.length cka)) from ⟨(blk_cell o.out 1).trans rfl, (blk_cell o.out 2).trans rfl, (blk_cell o.out 5).trans rfl⟩) (fun G => ?_)
 clear hK K
 apply nmA 5
 apply la 9 none; intro K hK
 have b2 := c.z
 have b3 := c.c6
 have a5 := c.s6 (.int .i64 9) (.string x.1.text) (.int .i64 x.1.place) (.int .i64 0) (.slice none 0 0) (.slice nx rr.length (cka - 1))
 clear c
 obtain ⟨v7, M, b, c⟩ := a5
 refine skip_ (w1 := v7) (by rfl) rfl ?_ ?_
 ·rw [← M]
  clear M
  go_simp
  (try rfl)
 have X := Z.out
 replace U := U.f1 b (by omega)
 replace D := D.p1 b (by omega)
 replace e := e.b1 b (by omega)
 replace ATr := Aside0.mk (b.at_ ATr.out (show ¬ (gR = V) from by omega))
 replace C := C.n1 b (fun k hk => by omega)
 replace QR := QR.q1 b (fun k hk => by omega)
 replace o := o.b1 b (by omega)
 clear X
 replace Z := Z.k b
 clear b2 b3 M b
 refine hK.out _ _ ?_
 clear hK K
 refine done_ (by kernel_rfl) ?_
 have I := e.e6
 have a1 := o.c6
 have b4 := c.c6
 have a4 : L ≠ R ∧ R ≠ L ∧ L ≠ V ∧ V ≠ L := (by have X := Z.out; omega)
 go_wp2
 refine start_ (n := 11) (S := fun w' => (w'.cell? ⟨R, 2, none⟩ = some (.int .i64 x.1.place)) ∧ (w'.cell? ⟨R, 5, none⟩ = some (.slice (some ⟨gR, oR, none⟩) x.1.kids.length cka)) ∧ (w'.cell? ⟨gR, oR, none⟩ = some (.int .i64 rcv.kind) ∧ w'.cell? ⟨gR, oR + 1, none⟩ = some (.string rcv.text) ∧ w'.cell? ⟨gR, oR + 2, none⟩ = some (.int .i64 rcv.place) ∧ w'.cell? ⟨gR, oR + 3, none⟩ = some (.int .i64 rcv.n) ∧ w'.cell? ⟨gR, oR + 4, none⟩ = some (.slice Anr rcv.names.length cnr) ∧ w'.cell? ⟨gR, oR + 5, none⟩ = some (.slice Akr rcv.kids.length ckr)) ∧ (w'.cell? ⟨V, 0, none⟩ = some (.int .i64 9)) ∧ (w'.cell? ⟨V, 1, none⟩ = some (.string x.1.text)) ∧ (w'.cell? ⟨V, 2, none⟩ = some (.int .i64 x.1.place)) ∧ (w'.cell? ⟨V, 3, none⟩ = some (.int .i64 0)) ∧ (w'.cell? ⟨V, 4, none⟩ = some (.slice none 0 0)) ∧ (w'.cell? ⟨V, 5, none⟩ = some (.slice nx rr.length (cka - 1)))) (ds := [10]) #[false, false, false, false, false, false, false, false, false, false, false] (by kernel_rfl) rfl rfl (show ((World.drew v7).cell? ⟨R, 2, none⟩ = some (.int .i64 x.1.place)) ∧ ((World.drew v7).cell? ⟨R, 5, none⟩ = some (.slice (some ⟨gR, oR, none⟩) x.1.kids.length cka)) ∧ ((World.drew v7).cell? ⟨gR, oR, none⟩ = some (.int .i64 rcv.kind) ∧ (World.drew v7).cell? ⟨gR, oR + 1, none⟩ = some (.string rcv.text) ∧ (World.drew v7).cell? ⟨gR, oR + 2, none⟩ = some (.int .i64 rcv.place) ∧ (World.drew v7).cell? ⟨gR, oR + 3, none⟩ = some (.int .i64 rcv.n) ∧ (World.drew v7).cell? ⟨gR, oR + 4, none⟩ = some (.slice Anr rcv.names.length cnr) ∧ (World.drew v7).cell? ⟨gR, oR + 5, none⟩ = some (.slice Akr rcv.kids.length ckr)) ∧ ((World.drew v7).cell? ⟨V, 0, none⟩ = some (.int .i64 9)) ∧ ((World.drew v7).cell? ⟨V, 1, none⟩ = some (.string x.1.text)) ∧ ((World.drew v7).cell? ⟨V, 2, none⟩ = some (.int .i64 x.1.place)) ∧ ((World.drew v7).cell? ⟨V, 3, none⟩ = some (.int .i64 0)) ∧ ((World.drew v7).cell? ⟨V, 4, none⟩ = some (.slice none 0 0)) ∧ ((World.drew v7).cell? ⟨V, 5, none⟩ = some (.slice nx rr.length (cka - 1))) from ⟨(blk_cell o.out 2).trans rfl, (blk_cell o.out 5).trans rfl, ATr.out, (blk_cell c.out 0).trans rfl, (blk_cell c.out 1).trans rfl, (blk_cell c.out 2).trans rfl, (blk_cell c.out 3).trans rfl, (blk_cell c.out 4).trans rfl, (blk_cell c.out 5).trans rfl⟩) (fun G => ?_)
 obtain ⟨v8, M⟩ : ∃ W_, W_ = World.drew v7 := ⟨_, rfl⟩
 rw [← M] at G ⊢
 have b : Fr (fun _ => False) v7 v8 := (by rw [M]; exact (Fr.refl _ _).drew)
 replace U := U.f0 b
 replace D := D.p0 b
 replace e := e.b0 b
 replace ATr := Aside0.mk (b.at_ ATr.out (fun h => h))
 replace C := C.n0 b
 replace QR := QR.q0 b
 replace o := o.b0 b
 replace c := c.b0 b
 replace Z := Z.k b
 clear b M
 clear I a1 b4 a4
 apply puA 0 33
 apply puA 2 35
 apply tkA 1 34 G
 apply tkA 3 36 G
 apply puA 4 37
 apply tkA 5 38 G
 apply tkA 6 39 G
 refine join_ (σ := Nat × Nat) 1 #[true, true, true, true, true, true, true, true, true, true, false] (fun s_ => [(40, .slice (some ⟨s_.1, 0, none⟩) 2 2), (6, .pointer (some ⟨s_.2, 0, none⟩)), (41, .agg #[.int .i64 8, .string ⟨#[]⟩, .int .i64 x.1.place, .int .i64 0, .slice none 0 0, .slice (some ⟨s_.1, 0, none⟩) 2 2])]) (fun s_ w' => w'.heap[s_.1]? = some (.cells #[.int .i64 rcv.kind, .string rcv.text, .int .i64 rcv.place, .int .i64 rcv.n, .slice Anr rcv.names.length cnr, .slice Akr rcv.kids.length ckr, .int .i64 9, .string x.1.text, .int .i64 x.1.place, .int .i64 0, .slice none 0 0, .slice nx rr.length (cka - 1)] 36 (0, 0)) ∧ w'.heap[s_.2]? = some (.cells #[.int .i64 0, .string ⟨#[]⟩, .int .i64 0, .int .i64 0, .slice none 0 0, .slice none 0 0] 36 (0, 0)) ∧ Fr (fun _ => False) v8 w' ∧ v8.heap.size ≤ s_.1 ∧ v8.heap.size ≤ s_.2 ∧ s_.1 ≠ s_.2) ?_ ?_
 rotate_left
 ·intro hCont
  refine two_ (i := 7) (j := 9) (Ni := some 40) (Nj := some 6) #[true, true, true, true, true, true, true, true, false, false, false] #[true, true, true, true, true, true, true, false, false, true, false] rfl rfl rfl rfl (by kernel_rfl) (by decide) (by decide) (fun K hK => ?_) (fun K hK => ?_)
  ·skip
   have KC := Aside0.mk (Fr.refl (fun _ => False) v8)
   refine newN_ (cs := #[.int .i64 rcv.kind, .string rcv.text, .int .i64 rcv.place, .int .i64 rcv.n, .slice Anr rcv.names.length cnr, .slice Akr rcv.kids.length ckr, .int .i64 9, .string x.1.text, .int .i64 x.1.place, .int .i64 0, .slice none 0 0, .slice nx rr.length (cka - 1)]) (t := 36) (n := 2) (by rfl) rfl ?hr ?_
   (case hr => first | (go_simp; done) | (go_simp; rfl))
   intro bV O F s Y
   have b : Fr (fun _ => False) v8 F := Fr.of_below Y
   replace KC := Aside0.mk (KC.out.then_ b (fun _ h => h.elim))
   replace o := o.b0 b
   replace c := c.b0 b
   replace ATr := Aside0.mk (b.at_ ATr.out (fun h => h))
   replace Z := Z.k b
   replace Z := Aside0.mk (And.intro (Nat.le_of_eq O.symm) Z.out)
   replace Z := Aside0.mk (And.intro (Nat.le_of_eq O) Z.out)
   replace Z := Aside0.mk (And.intro (blk_lt s) Z.out)
   have J := Aside0.mk s
   clear O s Y b
   refine hK.out _ _ (show (F.cell? ⟨R, 2, none⟩ = some (.int .i64 x.1.place)) ∧ (F.cell? ⟨R, 5, none⟩ = some (.slice (some ⟨gR, oR, none⟩) x.1.kids.length cka)) ∧ (F.cell? ⟨gR, oR, none⟩ = some (.int .i64 rcv.kind) ∧ F.cell? ⟨gR, oR + 1, none⟩ = some (.string rcv.text) ∧ F.cell? ⟨gR, oR + 2, none⟩ = some (.int .i64 rcv.place) ∧ F.cell? ⟨gR, oR + 3, none⟩ = some (.int .i64 rcv.n) ∧ F.cell? ⟨gR, oR + 4, none⟩ = some (.slice Anr rcv.names.length cnr) ∧ F.cell? ⟨gR, oR + 5, none⟩ = some (.slice Akr rcv.kids.length ckr)) ∧ (F.cell? ⟨V, 0, none⟩ = some (.int .i64 9)) ∧ (F.cell? ⟨V, 1, none⟩ = some (.string x.1.text)) ∧ (F.cell? ⟨V, 2, none⟩ = some (.int .i64 x.1.place)) ∧ (F.cell? ⟨V, 3, none⟩ = some (.int .i64 0)) ∧ (F.cell? ⟨V, 4, none⟩ = some (.slice none 0 0)) ∧ (F.cell? ⟨V, 5, none⟩ = some (.slice nx rr.length (cka - 1))) from ⟨(blk_cell o.out 2).trans rfl, (blk_cell o.out 5).trans rfl, ATr.out, (blk_cell c.out 0).trans rfl, (blk_cell c.out 1).trans rfl, (blk_cell c.out 2).trans rfl, (blk_cell c.out 3).trans rfl, (blk_cell c.out 4).trans rfl, (blk_cell c.out 5).trans rfl⟩) (fun G => ?_)
   clear hK K
   apply nmA 40
   apply puA 8 41
   apply oN 9 (some 6); intro K hK
   refine newP_ (cs := #[.int .i64 0, .string ⟨#[]⟩, .int .i64 0, .int .i64 0, .slice none 0 0, .slice none 0 0]) (t := 36) (by rfl) rfl ?hr ?_
   (case hr => first | (go_simp; done) | (go_simp; rfl))
   intro g6 O A s Y
   have b : Fr (fun _ => False) F A := Fr.of_below Y
   replace KC := Aside0.mk (KC.out.then_ b (fun _ h => h.elim))
   replace o := o.b0 b
   replace c := c.b0 b
   replace ATr := Aside0.mk (b.at_ ATr.out (fun h => h))
   replace J := J.b0 b
   replace Z := Z.k b
   replace Z := Aside0.mk (And.intro (Nat.le_of_eq O.symm) Z.out)
   replace Z := Aside0.mk (And.intro (Nat.le_of_eq O) Z.out)
   replace Z := Aside0.mk (And.intro (blk_lt s) Z.out)
   have p := Aside0.mk s
   clear O s Y b
   refine hK.out _ _ (show (A.cell? ⟨R, 2, none⟩ = some (.int .i64 x.1.place)) ∧ (A.cell? ⟨R, 5, none⟩ = some (.slice (some ⟨gR, oR, none⟩) x.1.kids.length cka)) ∧ (A.cell? ⟨gR, oR, none⟩ = some (.int .i64 rcv.kind) ∧ A.cell? ⟨gR, oR + 1, none⟩ = some (.string rcv.text) ∧ A.cell? ⟨gR, oR + 2, none⟩ = some (.int .i64 rcv.place) ∧ A.cell? ⟨gR, oR + 3, none⟩ = some (.int .i64 rcv.n) ∧ A.cell? ⟨gR, oR + 4, none⟩ = some (.slice Anr rcv.names.length cnr) ∧ A.cell? ⟨gR, oR + 5, none⟩ = some (.slice Akr rcv.kids.length ckr)) ∧ (A.cell? ⟨V, 0, none⟩ = some (.int .i64 9)) ∧ (A.cell? ⟨V, 1, none⟩ = some (.string x.1.text)) ∧ (A.cell? ⟨V, 2, none⟩ = some (.int .i64 x.1.place)) ∧ (A.cell? ⟨V, 3, none⟩ = some (.int .i64 0)) ∧ (A.cell? ⟨V, 4, none⟩ = some (.slice none 0 0)) ∧ (A.cell? ⟨V, 5, none⟩ = some (.slice nx rr.length (cka - 1))) from ⟨(blk_cell o.out 2).trans rfl, (blk_cell o.out 5).trans rfl, ATr.out, (blk_cell c.out 0).trans rfl, (blk_cell c.out 1).trans rfl, (blk_cell c.out 2).trans rfl, (blk_cell c.out 3).trans rfl, (blk_cell c.out 4).trans rfl, (blk_cell c.out 5).trans rfl⟩) (fun G => ?_)
   clear hK K
   apply nmA 6
   exact norm_ (by simp only [putAll, Act.put, List.setIfInBounds_toArray, List.set_cons_zero, List.set_cons_succ]) (hCont (bV, g6) _ ⟨J.out, p.out, KC.out, by have X := Z.out; omega, by have X := Z.out; omega, by have X := Z.out; omega⟩)
  ·skip
   have KC := Aside0.mk (Fr.refl (fun _ => False) v8)
   refine newP_ (cs := #[.int .i64 0, .string ⟨#[]⟩, .int .i64 0, .int .i64 0, .slice none 0 0, .slice none 0 0]) (t := 36) (by rfl) rfl ?hr ?_
   (case hr => first | (go_simp; done) | (go_simp; rfl))
   intro g6 O F s Y
   have b : Fr (fun _ => False) v8 F := Fr.of_below Y
   replace KC := Aside0.mk (KC.out.then_ b (fun _ h => h.elim))
   replace o := o.b0 b
   replace c := c.b0 b
   replace ATr := Aside0.mk (b.at_ ATr.out (fun h => h))
   replace Z := Z.k b
   replace Z := Aside0.mk (And.intro (Nat.le_of_eq O.symm) Z.out)
   replace Z := Aside0.mk (And.intro (Nat.le_of_eq O) Z.out)
   replace Z := Aside0.mk (And.intro (blk_lt s) Z.out)
   have p := Aside0.mk s
   clear O s Y b
   refine hK.out _ _ (show (F.cell? ⟨R, 2, none⟩ = some (.int .i64 x.1.place)) ∧ (F.cell? ⟨R, 5, none⟩ = some (.slice (some ⟨gR, oR, none⟩) x.1.kids.length cka)) ∧ (F.cell? ⟨gR, oR, none⟩ = some (.int .i64 rcv.kind) ∧ F.cell? ⟨gR, oR + 1, none⟩ = some (.string rcv.text) ∧ F.cell? ⟨gR, oR + 2, none⟩ = some (.int .i64 rcv.place) ∧ F.cell? ⟨gR, oR + 3, none⟩ = some (.int .i64 rcv.n) ∧ F.cell? ⟨gR, oR + 4, none⟩ = some (.slice Anr rcv.names.length cnr) ∧ F.cell? ⟨gR, oR + 5, none⟩ = some (.slice Akr rcv.kids.length ckr)) ∧ (F.cell? ⟨V, 0, none⟩ = some (.int .i64 9)) ∧ (F.cell? ⟨V, 1, none⟩ = some (.string x.1.text)) ∧ (F.cell? ⟨V, 2, none⟩ = some (.int .i64 x.1.place)) ∧ (F.cell? ⟨V, 3, none⟩ = some (.int .i64 0)) ∧ (F.cell? ⟨V, 4, none⟩ = some (.slice none 0 0)) ∧ (F.cell? ⟨V, 5, none⟩ = some (.slice nx rr.length (cka - 1))) from ⟨(blk_cell o.out 2).trans rfl, (blk_cell o.out 5).trans rfl, ATr.out, (blk_cell c.out 0).trans rfl, (blk_cell c.out 1).trans rfl, (blk_cell c.out 2).trans rfl, (blk_cell c.out 3).trans rfl, (blk_cell c.out 4).trans rfl, (blk_cell c.out 5).trans rfl⟩) (fun G => ?_)
   clear hK K
   apply nmA 6
   apply oN 7 (some 40); intro K hK
   refine newN_ (cs := #[.int .i64 rcv.kind, .string rcv.text, .int .i64 rcv.place, .int .i64 rcv.n, .slice Anr rcv.names.length cnr, .slice Akr rcv.kids.length ckr, .int .i64 9, .string x.1.text, .int .i64 x.1.place, .int .i64 0, .slice none 0 0, .slice nx rr.length (cka - 1)]) (t := 36) (n := 2) (by rfl) rfl ?hr ?_
   (case hr => first | (go_simp; done) | (go_simp; rfl))
   intro bV O A s Y
   have b : Fr (fun _ => False) F A := Fr.of_below Y
   replace KC := Aside0.mk (KC.out.then_ b (fun _ h => h.elim))
   replace o := o.b0 b
   replace c := c.b0 b
   replace ATr := Aside0.mk (b.at_ ATr.out (fun h => h))
   replace p := p.b0 b
   replace Z := Z.k b
   replace Z := Aside0.mk (And.intro (Nat.le_of_eq O.symm) Z.out)
   replace Z := Aside0.mk (And.intro (Nat.le_of_eq O) Z.out)
   replace Z := Aside0.mk (And.intro (blk_lt s) Z.out)
   have J := Aside0.mk s
   clear O s Y b
   refine hK.out _ _ (show (A.cell? ⟨R, 2, none⟩ = some (.int .i64 x.1.place)) ∧ (A.cell? ⟨R, 5, none⟩ = some (.slice (some ⟨gR, oR, none⟩) x.1.kids.length cka)) ∧ (A.cell? ⟨gR, oR, none⟩ = some (.int .i64 rcv.kind) ∧ A.cell? ⟨gR, oR + 1, none⟩ = some (.string rcv.text) ∧ A.cell? ⟨gR, oR + 2, none⟩ = some (.int .i64 rcv.place) ∧ A.cell? ⟨gR, oR + 3, none⟩ = some (.int .i64 rcv.n) ∧ A.cell? ⟨gR, oR + 4, none⟩ = some (.slice Anr rcv.names.length cnr) ∧ A.cell? ⟨gR, oR + 5, none⟩ = some (.slice Akr rcv.kids.length ckr)) ∧ (A.cell? ⟨V, 0, none⟩ = some (.int .i64 9)) ∧ (A.cell? ⟨V, 1, none⟩ = some (.string x.1.text)) ∧ (A.cell? ⟨V, 2, none⟩ = some (.int .i64 x.1.place)) ∧ (A.cell? ⟨V, 3, none⟩ = some (.int .i64 0)) ∧ (A.cell? ⟨V, 4, none⟩ = some (.slice none 0 0)) ∧ (A.cell? ⟨V, 5, none⟩ = some (.slice nx rr.length (cka - 1))) from ⟨(blk_cell o.out 2).trans rfl, (blk_cell o.out 5).trans rfl, ATr.out, (blk_cell c.out 0).trans rfl, (blk_cell c.out 1).trans rfl, (blk_cell c.out 2).trans rfl, (blk_cell c.out 3).trans rfl, (blk_cell c.out 4).trans rfl, (blk_cell c.out 5).trans rfl⟩) (fun G => ?_)
   clear hK K
   apply nmA 40
   apply puA 8 41
   exact norm_ (by simp only [putAll, Act.put, List.setIfInBounds_toArray, List.set_cons_zero, List.set_cons_succ]) (hCont (bV, g6) _ ⟨J.out, p.out, KC.out, by have X := Z.out; omega, by have X := Z.out; omega, by have X := Z.out; omega⟩)
 rintro ⟨bV, g6⟩ F ⟨hb1_, hb2_, b, a7, b9, c8⟩
 replace U := U.f0 b
 replace D := D.p0 b
 replace e := e.b0 b
 replace ATr := Aside0.mk (b.at_ ATr.out (fun h => h))
 replace C := C.n0 b
 replace QR := QR.q0 b
 replace o := o.b0 b
 replace c := c.b0 b
 replace Z := Z.k b
 replace Z := Aside0.mk (And.intro (a7) Z.out)
 replace Z := Aside0.mk (And.intro (b9) Z.out)
 replace Z := Aside0.mk (And.intro (c8) Z.out)
 replace Z := Aside0.mk (And.intro (blk_lt hb1_) Z.out)
 replace Z := Aside0.mk (And.intro (blk_lt hb2_) Z.out)
 have J := Aside0.mk hb1_
 have p := Aside0.mk hb2_
 clear b a7 b9 c8 hb1_ hb2_
 refine norm_ (a' := ?_) ?_ ?_
 rotate_left
 ·simp only [putAll, Act.put, List.setIfInBounds_toArray, List.set_cons_zero, List.set_cons_succ]
  rfl
 apply la 10 none; intro K hK
 have b2 := p.z
 have b3 := p.c6
 have a5 := p.s6 (.int .i64 8) (.string ⟨#[]⟩) (.int .i64 x.1.place) (.int .i64 0) (.slice none 0 0) (.slice (some ⟨bV, 0, none⟩) 2 2)
 clear p
 obtain ⟨A, M, b, p⟩ := a5
 refine skip_ (w1 := A) (by rfl) rfl ?_ ?_
 ·rw [← M]
  clear M
  go_simp
  (try rfl)
 have X := Z.out
 replace U := U.f1 b (by omega)
 replace D := D.p1 b (by omega)
 replace e := e.b1 b (by omega)
 replace ATr := Aside0.mk (b.at_ ATr.out (show ¬ (gR = g6) from by omega))
 replace C := C.n1 b (fun k hk => by omega)
 replace QR := QR.q1 b (fun k hk => by omega)
 replace o := o.b1 b (by omega)
 replace c := c.b1 b (by omega)
 replace J := J.b1 b (by omega)
 clear X
 replace Z := Z.k b
 clear b2 b3 M b
 refine hK.out _ _ ?_
 clear hK K
 refine done_ (by kernel_rfl) ?_
 have I := e.e6
 have a1 := o.c6
 have b4 := c.c6
 have d4 : A.cell? ⟨bV, 0, none⟩ = some (.int .i64 rcv.kind) ∧ A.cell? ⟨bV, 1, none⟩ = some (.string rcv.text) ∧ A.cell? ⟨bV, 2, none⟩ = some (.int .i64 rcv.place) ∧ A.cell? ⟨bV, 3, none⟩ = some (.int .i64 rcv.n) ∧ A.cell? ⟨bV, 4, none⟩ = some (.slice Anr rcv.names.length cnr) ∧ A.cell? ⟨bV, 5, none⟩ = some (.slice Akr rcv.kids.length ckr) ∧ A.cell? ⟨bV, 6, none⟩ = some (.int .i64 9) ∧ A.cell? ⟨bV, 7, none⟩ = some (.string x.1.text) ∧ A.cell? ⟨bV, 8, none⟩ = some (.int .i64 x.1.place) ∧ A.cell? ⟨bV, 9, none⟩ = some (.int .i64 0) ∧ A.cell? ⟨bV, 10, none⟩ = some (.slice none 0 0) ∧ A.cell? ⟨bV, 11, none⟩ = some (.slice nx rr.length (cka - 1)) := ⟨(blk_cell J.out 0).trans rfl, (blk_cell J.out 1).trans rfl, (blk_cell J.out 2).trans rfl, (blk_cell J.out 3).trans rfl, (blk_cell J.out 4).trans rfl, (blk_cell J.out 5).trans rfl, (blk_cell J.out 6).trans rfl, (blk_cell J.out 7).trans rfl, (blk_cell J.out 8).trans rfl, (blk_cell J.out 9).trans rfl, (blk_cell J.out 10).trans rfl, (blk_cell J.out 11).trans rfl⟩
 have P := p.c6
 have a4 : L ≠ R ∧ R ≠ L ∧ L ≠ V ∧ V ≠ L ∧ L ≠ bV ∧ bV ≠ L ∧ L ≠ g6 ∧ g6 ≠ L := (by have X := Z.out; omega)
 go_wp2
 have QK := Aside0.mk (row_two (S := fun k => (w.heap.size ≤ k ∧ k ≠ L ∧ k ≠ g6)) (y := SP.Nd.mk 9 x.1.text x.1.place 0 [] rr) J.out C.out ⟨Kd.Q_nil _ _ _ _ _, QR.out⟩ (fun k (hk : (v1.heap.size ≤ k ∧ k < v2.heap.size)) => (show (w.heap.size ≤ k ∧ k ≠ L ∧ k ≠ g6) ∧ k ≠ bV from by have X := Z.out; omega)) (fun k (hk : (v1.heap.size ≤ k ∧ k < v2.heap.size)) => (show (w.heap.size ≤ k ∧ k ≠ L ∧ k ≠ g6) ∧ k ≠ bV from by have X := Z.out; omega)) (show (w.heap.size ≤ bV ∧ bV ≠ L ∧ bV ≠ g6) from by have X := Z.out; omega))
 go_loopg [] k (fun kq w' => ∃ (l' : List S28) (ks : List SP.Nd), Aside0 (SP.bind (SP.cascs kq d l' ks) (fun ks l3 => SP.ret (SP.Nd.mk 8 SP.E x.1.place 0 [] ks) l3) = some r) ∧ Aside0 (PS B w' pb l' d) ∧ Aside0 (w'.heap[L]? = some (.cells #[.int .i64 0, .string ⟨#[]⟩, .int .i64 0, .int .i64 0, .slice none 0 0, .slice none 0 0] 36 (0, 0))) ∧ Aside0 (Kids g6 (fun k => (w.heap.size ≤ k ∧ k ≠ L ∧ k ≠ g6)) (.int .i64 8) (.string ⟨#[]⟩) (.int .i64 x.1.place) (.int .i64 0) (.slice none 0 0) ks w') ∧ Aside0 (Fr (fun k => k = pb) w w') ∧ Aside0 (ks.length + kq ≤ k + 2 ∧ kq ≤ k))
 case atStart => exact ⟨u :: l1, [rcv, SP.Nd.mk 9 x.1.text x.1.place 0 [] rr], Hcs, D, e, ⟨_, _, p.out, QK.out⟩, U, ⟨⟨by simp only [List.length_cons, List.length_nil]; omega, Nat.le_refl _⟩⟩⟩
 case round =>
  clear Hcs D e p o c J QK QR C ATr U hkl hkl0 hkl1 hcut hnx
  obtain ⟨l', ks, H, D, e, ⟨AK, cK, Y, b5⟩, U, HL⟩ := hrel
  have p := Aside0.mk Y
  have QK := Aside0.mk b5
  have Z0 := Aside0.mk (show pb < B ∧ B ≤ w.heap.size ∧ w.heap.size ≤ L ∧ w.heap.size ≤ g6 ∧ L ≠ g6 from by have X := Z.out; omega)
  replace Z := Aside0.mk (And.intro U.out.size (And.intro (blk_lt e.out) (And.intro (blk_lt p.out) Z0.out)))
  clear Z0 Y b5
  cases gk with
  | zero => exact absurd H.out (by simp [SP.cascs, SP.bind])
  | succ k1 =>
   cases l' with
   | nil => exact absurd H.out (by simp [SP.cascs, SP.top, SP.bind])
   | cons u l1 =>
    by_cases h2 : u.f0 = 15
    ·have c9 : (u.f0 == 15) = true := by simp [h2]
     have H2 := H.out
     simp only [SP.cascs, SP.top, h2, if_true, bind_assoc] at H2
     replace H := Aside0.mk H2
     clear H2 h2
     obtain ⟨r1, he⟩ : ∃ r1, SP.msg k1 d (SP.tl (u :: l1)) = some r1 := by
      cases he : SP.msg k1 d (SP.tl (u :: l1)) with
      | none => exact absurd H.out (by rw [he]; simp [SP.bind])
      | some r1 => exact ⟨r1, rfl⟩
     have H2 := H.out
     rw [he] at H2
     replace H := Aside0.mk H2
     replace he := Aside0.mk he
     clear H2
     have I := e.c6
     have P := p.c6
     go_wp2_with (first
      | ((with_reducible refine gate_dst (N := 43) rfl ?_); (try (refine gate_guard (by rfl) ?_; dsimp only)); apply kindE 43 D)
      | ((with_reducible refine gate_dst (N := 46) rfl ?_); apply takeE 46 D; intro a3 a2 b; replace D := Aside0.mk a2; clear a2; have X := Z.out; replace U := U.f1 b (by omega); replace e := e.b1 b (by omega); replace p := p.b1 b (by omega); replace QK := QK.q1 b (fun k hk => by omega); clear X; replace Z := Z.k b; clear b; clear I P; have I := e.c6; have P := p.c6))
     replace QK := Aside0.mk (Q_mono' (T := fun k => ((w.heap.size ≤ k ∧ k ≠ L ∧ k ≠ g6) ∧ k < a3.heap.size)) QK.out (fun k a7 b9 => ⟨a7, b9⟩))
     have HM := Aside0.mk (fun k hk => Kd.Q_lt QK.out k hk)
     refine start_ (n := 8) (S := fun w' => (w'.cell? ⟨g6, 5, none⟩ = some (.slice AK ks.length cK))) (ds := [7]) #[false, false, false, false, false, false, false, false] (by kernel_rfl) rfl rfl (show ((World.drew a3).cell? ⟨g6, 5, none⟩ = some (.slice AK ks.length cK)) from (blk_cell p.out 5).trans rfl) (fun G => ?_)
     obtain ⟨b6, M⟩ : ∃ W_, W_ = World.drew a3 := ⟨_, rfl⟩
     rw [← M] at G ⊢
     have b : Fr (fun _ => False) a3 b6 := (by rw [M]; exact (Fr.refl _ _).drew)
     replace U := U.f0 b
     replace D := D.p0 b
     replace e := e.b0 b
     replace p := p.b0 b
     replace QK := QK.q0 b
     replace Z := Z.k b
     clear b M
     clear I P
     apply puA 0 47
     apply puA 2 49
     apply tkA 1 48 G
     apply oN 3 (some 50); intro K hK
     refine goesR_ Try.func70 (by kernel_rfl) rfl #[.pointer (some ⟨pb, 0, none⟩)] (by rfl) rfl rfl (by (try simp only [List.map_toArray, List.map_cons, List.map_nil]); first | done | rfl) ?_
     refine (ihm _ (by have := HL.out; omega) _ _ _ _ _ _ he.out D.out).mono ?_
     rintro e_ a6 a9
     rcases r1 with x_ | ⟨m, l2⟩
     (obtain ⟨rfl, b⟩ := a9; obtain rfl : r = Except.error x_ := (Option.some.inj H.out).symm; exact Or.inr ⟨_, rfl, rfl, rfl, U.out.then_ b (fun k hk => .inl hk)⟩)
     obtain ⟨v_, rfl, ⟨nvm, kvm, rfl, a0⟩, a2, b⟩ := a9
     refine Or.inl ⟨_, rfl, ?_⟩
     obtain ⟨Anm, cnm, rfl, _⟩ := Kd.Q_slice a0.1
     obtain ⟨Akm, ckm, rfl, _⟩ := Kd.Q_slice a0.2
     replace D := Aside0.mk a2
     have X := Z.out
     replace U := U.f1 b (by omega)
     replace e := e.b1 b (by omega)
     replace p := p.b1 b (by omega)
     replace QK := QK.q1 b (fun k hk => by omega)
     clear X
     replace Z := Z.k b
     have c0 := Aside0.mk (a0.mono (T := fun k => (b6.heap.size ≤ k ∧ k < a6.heap.size)) (fun k h1 h2 => ⟨h1, h2⟩))
     clear a2 a0 b
     refine hK.out _ _ (show (a6.cell? ⟨g6, 5, none⟩ = some (.slice AK ks.length cK)) from (blk_cell p.out 5).trans rfl) (fun G => ?_)
     clear hK K
     apply nmA 50
     apply oN 4 (some 51); intro K hK
     refine newR_ (cs := #[.int .i64 m.kind, .string m.text, .int .i64 m.place, .int .i64 m.n, .slice Anm m.names.length cnm, .slice Akm m.kids.length ckm]) (t := 36) (by rfl) rfl ?hr ?_
     (case hr => first | (go_simp; done) | (go_simp; rfl))
     intro bW O b7 s Y
     have b : Fr (fun _ => False) a6 b7 := Fr.of_below Y
     replace U := U.f0 b
     replace D := D.p0 b
     replace e := e.b0 b
     replace p := p.b0 b
     replace QK := QK.q0 b
     replace c0 := c0.n0 b
     replace Z := Z.k b
     replace Z := Aside0.mk (And.intro (Nat.le_of_eq O.symm) Z.out)
     replace Z := Aside0.mk (And.intro (Nat.le_of_eq O) Z.out)
     replace Z := Aside0.mk (And.intro (blk_lt s) Z.out)
     have c3 := Aside0.mk s
     clear O s Y b
     refine hK.out _ _ (show (b7.cell? ⟨g6, 5, none⟩ = some (.slice AK ks.length cK)) from (blk_cell p.out 5).trans rfl) (fun G => ?_)
     clear hK K
     apply nmA 51
     apply oN 5 (some 52); intro K hK
     obtain ⟨AP, d0, d1, d5, b8, c4, b, b5⟩ := kid_push (W := b7) 34 a3.heap.size (HM.out) (Q_mono' QK.out (fun k a7 _ => a7.1)) c0.out (fun k (hk : (b6.heap.size ≤ k ∧ k < a6.heap.size)) => (show ((w.heap.size ≤ k ∧ k ≠ L ∧ k ≠ g6)) ∧ (∀ j, Value.ownBlock (Value.slice AK ks.length cK) = some j → k ≠ j) from ⟨by have X := Z.out; omega, fun j hj => by have X := Z.out; have := HM.out j hj; omega⟩)) (fun k hk => (show (w.heap.size ≤ k ∧ k ≠ L ∧ k ≠ g6) from by have X := Z.out; omega)) (show (w.heap.size ≤ bW ∧ bW ≠ L ∧ bW ≠ g6) from by have X := Z.out; omega) c3.out (by have := HL.out; omega)
     refine appendR_ (.tmp 48) (.tmp 51) (by rfl) rfl rfl rfl rfl b8 ?_
     replace Z := Aside0.mk (And.intro (b5) Z.out)
     clear b5 b8 c3 QK c0 HM
     have X := Z.out
     replace U := U.f1 b (by omega)
     replace D := D.p1 b (by omega)
     replace e := e.b1 b (by omega)
     replace p := p.b1 b (by omega)
     clear X
     replace Z := Z.k b
     clear b
     have QK := Aside0.mk c4
     clear c4
     refine hK.out _ _ (show (d1.cell? ⟨g6, 5, none⟩ = some (.slice AK ks.length cK)) from (blk_cell p.out 5).trans rfl) (fun G => ?_)
     clear hK K
     apply nmA 52
     apply puA 6 53
     apply la 7 none; intro K hK
     have b2 := p.z
     have b3 := p.c6
     have a5 := p.st 5 (.slice AP (ks.length + 1) d0) (cs' := #[.int .i64 8, .string ⟨#[]⟩, .int .i64 x.1.place, .int .i64 0, .slice none 0 0, .slice AP (ks.length + 1) d0]) rfl
     clear p
     obtain ⟨d2, M, b, p⟩ := a5
     refine skip_ (w1 := d2) (by rfl) rfl ?_ ?_
     ·rw [← M]
      clear M
      go_simp
      (try rfl)
     have X := Z.out
     replace U := U.f1 b (by omega)
     replace D := D.p1 b (by omega)
     replace e := e.b1 b (by omega)
     replace QK := QK.q1 b (fun k hk => by omega)
     clear X
     replace Z := Z.k b
     clear b2 b3 M b
     refine hK.out _ _ ?_
     clear hK K
     refine done_ (by kernel_rfl) ?_
     (try go_wp2)
     go_roundg k1
     case measure => omega
     case rel =>
      have e_ : (ks ++ [m]).length = ks.length + 1 := by simp
      exact ⟨l2, ks ++ [m], H, D, e, ⟨_, _, by rw [e_]; exact p.out, by rw [e_]; exact QK.out⟩, U, ⟨by rw [e_]; have := HL.out; omega⟩⟩
    have c9 : (u.f0 == 15) = false := by simp [h2]
    have H2 := H.out
    simp only [SP.cascs, SP.top, h2, if_false, SP.ret, SP.bind, Option.some.injEq] at H2
    subst H2
    clear H h2
    have I := e.e6
    have P := p.c6
    have a4 : L ≠ g6 ∧ g6 ≠ L := (by have X := Z.out; omega)
    go_wp2_with (first
     | ((with_reducible refine gate_dst (N := 43) rfl ?_); (try (refine gate_guard (by rfl) ?_; dsimp only)); apply kindE 43 D))
    have a5 := e.s6 (.int .i64 8) (.string ⟨#[]⟩) (.int .i64 x.1.place) (.int .i64 0) (.slice none 0 0) (.slice AK ks.length cK)
    clear e
    obtain ⟨a3, M, b, e⟩ := a5
    rw [M]
    clear M
    have X := Z.out
    replace U := U.f1 b (by omega)
    replace D := D.p1 b (by omega)
    replace p := p.b1 b (by omega)
    replace QK := QK.q1 b (fun k hk => by omega)
    clear X
    replace Z := Z.k b
    clear b
    clear I P a4
    have I := e.e6
    have P := p.c6
    have a4 : L ≠ g6 ∧ g6 ≠ L := (by have X := Z.out; omega)
    refine bodyPost_ret (results_c rfl _ _ L 36 _ (0, 0) _ rfl e.out hu36 rfl rfl) rfl ?_
    exact ⟨_, rfl, ⟨_, _, rfl, Kd.Q_nil _ _ _ _ _, Q_mono' QK.out (fun k h1 _ => h1.1)⟩, D.out, U.out⟩
theorem tree_cascade.step {k : Nat} (ihm : ∀ j, j ≤ k → CN 70 SP.msg j) (hk : k ≤ 1073741824) (ihk : CB 69 SP.keyed k) : CN 64 SP.casc (k + 1) := by
 intro B pb d l r w hr h
 unfold SP.casc at hr
 cases he : SP.keyed k d l with
 | none => rw [he] at hr; simp [SP.bind] at hr
 | some r0 =>
  rw [he] at hr
  rcases r0 with y | ⟨x, l2⟩
  ·simp only [SP.bind, Option.some.injEq] at hr
   subst hr
   exact tree_cascade.plain ihk w h he (fun y e => by injection e with e; rw [e]) (fun x l2 e => by cases e)
  ·simp only [SP.bind] at hr
   have hb : ∀ y, (Except.ok (x, l2) : Except (Int × Int) ((SP.Nd × Bool) × List S28)) = .error y → r = .error y := fun y e => by cases e
   cases l2 with
   | nil => simp [SP.top] at hr
   | cons u l1 =>
    simp only [SP.top] at hr
    by_cases h15 : u.f0 = 15
    ·rw [if_pos h15] at hr
     by_cases h7 : x.1.kind = 7
     ·by_cases hp : x.2 = true
      ·rw [if_pos ⟨h7, hp⟩] at hr
       cases hkd : x.1.kids with
       | nil => rw [hkd] at hr; simp at hr
       | cons rcv rr =>
        rw [hkd] at hr
        refine tree_cascade.good ihm hk ihk w h he hb (fun x' l2' e => ?_)
        injection e with e
        simp only [Prod.mk.injEq] at e
        obtain ⟨rfl, rfl⟩ := e
        exact ⟨u, l1, rfl, by simp [h15], by simp [h7], hp, rcv, rr, hkd, hr⟩
      ·rw [if_neg (fun h => hp h.2)] at hr
       simp only [SP.bad, SP.top, Option.some.injEq] at hr
       refine tree_cascade.poor2 ihk w h he hb (fun x' l2' e => ?_)
       injection e with e
       simp only [Prod.mk.injEq] at e
       obtain ⟨rfl, rfl⟩ := e
       exact ⟨u, l1, rfl, by simp [h15], by simp [h7], by simpa using hp, hr.symm⟩
     ·rw [if_neg (fun h => h7 h.1)] at hr
      simp only [SP.bad, SP.top, Option.some.injEq] at hr
      refine tree_cascade.poor1 ihk w h he hb (fun x' l2' e => ?_)
      injection e with e
      simp only [Prod.mk.injEq] at e
      obtain ⟨rfl, rfl⟩ := e
      exact ⟨u, l1, rfl, by simp [h15], by simp [h7], hr.symm⟩
    ·rw [if_neg h15] at hr
     simp only [SP.ret, Option.some.injEq] at hr
     refine tree_cascade.plain ihk w h he hb (fun x' l2' e => ?_)
     injection e with e
     simp only [Prod.mk.injEq] at e
     obtain ⟨rfl, rfl⟩ := e
     exact ⟨u, l1, rfl, by simp [h15], hr.symm⟩
end Go.Proofs.Ytpodpmjlkbbkoaa.P
