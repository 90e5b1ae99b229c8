import Derived.Test.YtpodpmjlkbbkoaaQCTE
import Derived.Test.YtpodpmjlkbbkoaaQCTA
import Derived.Deep.LoopGhost
set_option linter.all false
set_option maxHeartbeats 16000000
set_option maxRecDepth 100000
namespace Go.Proofs.Ytpodpmjlkbbkoaa.P
open Go.RowKit Go.Proofs.YtpodpmjlkbbkoaaW.PrintWords Go.Proofs.YtpodpmjlkbbkoaaW.PrintLast Go.Proofs.YtpodpmjlkbbkoaaW.PrintMore
variable [Low]
def Kids (g : Nat) (S : Nat → Prop) (a b c d e : Value) (ks : List SP.Nd) (w : World) : Prop := ∃ A c', w.heap[g]? = some (.cells #[a, b, c, d, e, .slice A ks.length c'] 36 (0, 0)) ∧ kNd.Q 36 w 0 S (.slice A ks.length c') ks
omit [Low] in
theorem Kids.fr {g : Nat} {S X : Nat → Prop} {a b c d e : Value} {ks : List SP.Nd} {w w' : World} (h : Kids g S a b c d e ks w) (hf : Fr X w w') (hg : ¬ X g) (hS : ∀ k, S k → ¬ X k) : Kids g S a b c d e ks w' := by
 obtain ⟨A, c', h1, h2⟩ := h
 exact ⟨A, c', hf.blk h1 hg, hf.Q h2 hS⟩
omit [Low] in
theorem bind_assoc {α β γ : Type} (x : SP.PR α) (f : α → List S28 → SP.PR β) (g : β → List S28 → SP.PR γ) : SP.bind (SP.bind x f) g = SP.bind x (fun a l => SP.bind (f a l) g) := by
 unfold SP.bind
 rcases x with _ | x
 ·rfl
 ·rcases x with x | ⟨a, l⟩ <;> rfl
omit [Low] in
theorem elem_nil (k : Nat) (d : Int) : SP.elem k d [] = none := by cases k <;> simp [SP.elem, SP.top]
theorem tree_list1.calls {k : Nat} (ihe : ∀ j, j ≤ k → CN 86 SP.elem j) {B pb g1 g3 : Nat} {l : List S28} {d : Int} {r : Except (Int × Int) (List SP.Nd × List S28)} (w : World) (a b c : Value) (h : PS B w pb l d)
  (h1 : w.heap[g1]? = some (.cells #[.pointer (some ⟨pb, 0, none⟩)] 45 (0, 0))) (h3 : w.heap[g3]? = some (.cells #[a, b, c, .int .i64 0, .slice none 0 0, .slice none 0 0] 36 (0, 0))) (hg1 : B ≤ g1) (hg3 : B ≤ g3) (h13 : g1 ≠ g3)
  (hk : k ≤ 1073741824) (hr : SP.bind (SP.elems k d l []) (fun ks l3 => SP.ret ks (SP.tl l3)) = some r) :
  Calls Try.prog 85 #[.pointer (some ⟨g1, 0, none⟩), .pointer (some ⟨g3, 0, none⟩)] w (AnsC r B pb d (fun k => k = pb ∨ k = g3) w (Kids g3 (fun k => w.heap.size ≤ k ∧ k ≠ g3) a b c (.int .i64 0) (.slice none 0 0))) := by
 have hu36 := Try.underlying36
 have Z0 := Aside0.mk (show pb < B ∧ B ≤ w.heap.size ∧ B ≤ g1 ∧ B ≤ g3 ∧ g1 ≠ g3 ∧ g1 < w.heap.size ∧ g3 < w.heap.size from ⟨h.1, h.2.1, hg1, hg3, h13, blk_lt h1, blk_lt h3⟩)
 go_enter Try.func85, Try.ntmps85
 go_wp2
 go_loopg [] k (fun kq w' => ∃ (l' : List S28) (ks : List SP.Nd), Aside0 (SP.bind (SP.elems kq d l' ks) (fun ks l3 => SP.ret ks (SP.tl l3)) = some r) ∧ Aside0 (PS B w' pb l' d) ∧ Aside0 (w'.heap[g1]? = some (.cells #[.pointer (some ⟨pb, 0, none⟩)] 45 (0, 0))) ∧ Aside0 (Kids g3 (fun k => w.heap.size ≤ k ∧ k ≠ g3) a b c (.int .i64 0) (.slice none 0 0) ks w') ∧ Aside0 (Fr (fun k => k = pb ∨ k = g3) w w') ∧ Aside0 (ks.length + kq ≤ k))
 case atStart => exact ⟨l, [], ⟨hr⟩, ⟨h⟩, ⟨h1⟩, ⟨_, _, h3, Kd.Q_nil _ _ _ _ _⟩, ⟨Fr.refl _ _⟩, ⟨by simp⟩⟩
 case round =>
  clear hr h h1 h3 hg1 hg3 h13
  obtain ⟨l', ks, H, p, m, ⟨AK, cK, hK3, hQK⟩, D, HL⟩ := hrel
  have e := Aside0.mk hK3
  have U := Aside0.mk hQK
  have Z := Aside0.mk (And.intro D.out.size Z0.out)
  clear Z0 hK3 hQK
  cases gk with
  | zero => exact absurd H.out (by simp [SP.elems, SP.bind])
  | succ k1 =>
   cases l' with
   | nil => exact absurd H.out (by simp [SP.elems, SP.hk, elem_nil, SP.bind])
   | cons t l1 =>
    by_cases h9 : t.f0 = 9
    ·have c9 : (t.f0 != 9) = false := by simp [h9]
     have H2 := H.out
     simp only [SP.elems, SP.hk, h9, if_true, SP.ret, SP.bind, Option.some.injEq] at H2
     subst H2
     clear H h9
     have F := m.c1
     have L := e.c6
     go_wp2_with (first
      | ((with_reducible refine gate_dst (N := 3) rfl ?_); (try (refine gate_guard (by rfl) ?_; dsimp only)); apply kindE 3 p)
      | ((with_reducible refine gate_dst (N := 15) rfl ?_); apply takeE 15 p; intro v1 X o; replace p := Aside0.mk X; clear X; have I := Z.out; replace D := D.f1 o (by omega); replace m := m.b1 o (by omega); replace e := e.b1 o (by omega); replace U := U.q1 o (fun k hk => by omega); clear I; replace Z := Z.k o; clear o; clear F L; have F := m.c1; have L := e.c6))
     refine bodyPost_end (results_none rfl _ _ _) rfl ?_
     exact ⟨rfl, ⟨_, _, e.out, U.out⟩, p.out, D.out⟩
    ·have c9 : (t.f0 != 9) = true := by simp [h9]
     have H2 := H.out
     simp only [SP.elems, SP.hk, h9, if_false, bind_assoc] at H2
     replace H := Aside0.mk H2
     clear H2 h9
     obtain ⟨r1, he⟩ : ∃ r1, SP.elem k1 d (t :: l1) = some r1 := by
      cases he : SP.elem k1 d (t :: l1) with
      | none => exact absurd H.out (by rw [he]; simp [SP.bind])
      | some r1 => exact ⟨r1, rfl⟩
     have H2 := H.out
     rw [he] at H2
     replace H := Aside0.mk H2
     replace he := Aside0.mk he
     clear H2
     have F := m.c1
     have L := e.c6
     go_wp2_with (first
      | ((with_reducible refine gate_dst (N := 3) rfl ?_); (try (refine gate_guard (by rfl) ?_; dsimp only)); apply kindE 3 p))
     refine start_ (n := 11) (S := fun w' => (w'.cell? ⟨g3, 5, none⟩ = some (.slice AK ks.length cK)) ∧ (w'.cell? ⟨g1, 0, none⟩ = some (.pointer (some ⟨pb, 0, none⟩)))) (ds := [8, 10]) #[false, false, false, false, false, false, false, false, false, false, false] (by kernel_rfl) rfl rfl (show ((World.drew wr).cell? ⟨g3, 5, none⟩ = some (.slice AK ks.length cK)) ∧ ((World.drew wr).cell? ⟨g1, 0, none⟩ = some (.pointer (some ⟨pb, 0, none⟩))) from ⟨(blk_cell e.out 5).trans rfl, (blk_cell m.out 0).trans rfl⟩) (fun G => ?_)
     obtain ⟨v1, q⟩ : ∃ W_, W_ = World.drew wr := ⟨_, rfl⟩
     rw [← q] at G ⊢
     have o : Fr (fun _ => False) wr v1 := (by rw [q]; exact (Fr.refl _ _).drew)
     replace D := D.f0 o
     replace p := p.p0 o
     replace m := m.b0 o
     replace e := e.b0 o
     replace U := U.q0 o
     replace Z := Z.k o
     clear o q
     clear F L
     apply puA 0 5
     apply tkA 1 6 G
     apply tkA 2 7 G
     apply puA 4 9
     have HM := Aside0.mk (fun k hk => Kd.Q_lt U.out k hk)
     refine two_ (i := 3) (j := 5) (Ni := some 8) (Nj := some 10) #[true, true, true, true, true, false, false, false, false, false, false] #[true, true, true, false, true, true, false, false, false, false, false] rfl rfl rfl rfl (by kernel_rfl) (by decide) (by decide) (fun K hK => ?_) (fun K hK => ?_)
     ·skip
      refine goesR_ Try.func86 (by kernel_rfl) rfl #[.pointer (some ⟨pb, 0, none⟩)] (by rfl) rfl rfl (by (try simp only [List.map_toArray, List.map_cons, List.map_nil]); first | done | rfl) ?_
      refine (ihe _ (by have := HL.out; omega) _ _ _ _ _ _ he.out p.out).mono ?_
      rintro P Q a7
      rcases r1 with x_ | ⟨x, l2⟩
      (obtain ⟨rfl, o⟩ := a7; obtain rfl : r = Except.error x_ := (Option.some.inj H.out).symm; exact Or.inr ⟨_, rfl, rfl, rfl, D.out.then_ o (fun k hk => .inl (.inl hk))⟩)
      obtain ⟨v_, rfl, ⟨nva, kva, rfl, V⟩, X, o⟩ := a7
      refine Or.inl ⟨_, rfl, ?_⟩
      obtain ⟨Ana, cna, rfl, _⟩ := Kd.Q_slice V.1
      obtain ⟨Aka, cka, rfl, _⟩ := Kd.Q_slice V.2
      replace p := Aside0.mk X
      have I := Z.out
      replace D := D.f1 o (by omega)
      replace m := m.b1 o (by omega)
      replace e := e.b1 o (by omega)
      replace U := U.q1 o (fun k hk => by omega)
      clear I
      replace Z := Z.k o
      have u := Aside0.mk (V.mono (T := fun k => (v1.heap.size ≤ k ∧ k < Q.heap.size)) (fun k h1 h2 => ⟨h1, h2⟩))
      clear X V o
      refine hK.out _ _ (show (Q.cell? ⟨g3, 5, none⟩ = some (.slice AK ks.length cK)) ∧ (Q.cell? ⟨g1, 0, none⟩ = some (.pointer (some ⟨pb, 0, none⟩))) from ⟨(blk_cell e.out 5).trans rfl, (blk_cell m.out 0).trans rfl⟩) (fun G => ?_)
      clear hK K
      apply nmA 8
      apply oN 5 (some 10); intro K hK
      refine newR_ (cs := #[.int .i64 0, .string ⟨#[]⟩, .int .i64 0, .int .i64 0, .slice none 0 0, .slice none 0 0]) (t := 36) (by rfl) rfl ?hr ?_
      (case hr => first | (go_simp; done) | (go_simp; rfl))
      intro bV Y v3 O a8
      have o : Fr (fun _ => False) Q v3 := Fr.of_below a8
      replace D := D.f0 o
      replace p := p.p0 o
      replace m := m.b0 o
      replace e := e.b0 o
      replace U := U.q0 o
      replace u := u.n0 o
      replace Z := Z.k o
      replace Z := Aside0.mk (And.intro (Nat.le_of_eq Y.symm) Z.out)
      replace Z := Aside0.mk (And.intro (Nat.le_of_eq Y) Z.out)
      replace Z := Aside0.mk (And.intro (blk_lt O) Z.out)
      have C := Aside0.mk O
      clear Y O a8 o
      refine hK.out _ _ (show (v3.cell? ⟨g3, 5, none⟩ = some (.slice AK ks.length cK)) ∧ (v3.cell? ⟨g1, 0, none⟩ = some (.pointer (some ⟨pb, 0, none⟩))) from ⟨(blk_cell e.out 5).trans rfl, (blk_cell m.out 0).trans rfl⟩) (fun G => ?_)
      clear hK K
      apply nmA 10
      apply oN 6 (some 11); intro K hK
      obtain ⟨gK, oK, cK2, M, b3, E, o, a9, Y, A, v⟩ := kid_append (W := v3) 34 v1.heap.size HM.out U.out (fun k hk => (show (w.heap.size ≤ k ∧ k ≠ g3) from by have I := Z.out; omega)) (show (w.heap.size ≤ bV ∧ bV ≠ g3) from by have I := Z.out; omega) C.out (by have := HL.out; omega)
      refine appendR_ (.tmp 6) (.tmp 10) (by rfl) rfl rfl rfl rfl E ?_
      replace Z := Aside0.mk (And.intro (a9) Z.out)
      replace Z := Aside0.mk (And.intro (Y) Z.out)
      clear a9 Y E
      replace A := Aside0.mk A
      replace v := Aside0.mk v
      clear C U HM
      have I := Z.out
      replace D := D.f1 o (by omega)
      replace p := p.p1 o (by omega)
      replace m := m.b1 o (by omega)
      replace e := e.b1 o (by omega)
      replace u := u.n1 o (fun k hk => by omega)
      clear I
      replace Z := Z.k o
      clear o
      refine hK.out _ _ (show (M.cell? ⟨g3, 5, none⟩ = some (.slice AK ks.length cK)) ∧ (M.cell? ⟨g1, 0, none⟩ = some (.pointer (some ⟨pb, 0, none⟩))) from ⟨(blk_cell e.out 5).trans rfl, (blk_cell m.out 0).trans rfl⟩) (fun G => ?_)
      clear hK K
      apply nmA 11
      have hix0 : (0 : Int) ≤ (ks.length : Int) := by omega
      have hix1 : (ks.length : Int) < (ks.length : Int) + 1 := by omega
      apply puA 7 12
      apply puA 9 13
      refine two_last_ (i := 8) (j := 10) (Ni := none) (Nj := none) #[true, true, true, true, true, true, true, true, true, true, false] #[true, true, true, true, true, true, true, true, false, true, true] rfl rfl rfl rfl (by kernel_rfl) (by decide) (by decide) (fun K hK => ?_) (fun K hK => ?_)
      ·skip
       have y := v.out M x _ _ (fun k => False) (fun k => (v1.heap.size ≤ k ∧ k < Q.heap.size)) (Fr.refl _ _) (fun k (hk : (w.heap.size ≤ k ∧ k ≠ g3)) => (show ¬ (False) from fun h => h)) u.out (fun k (hk : (v1.heap.size ≤ k ∧ k < Q.heap.size)) => (show ((w.heap.size ≤ k ∧ k ≠ g3)) ∧ k ≠ gK from by have I := Z.out; omega))
       have s := A.out M (fun k => False) (Fr.refl _ _) (fun h => h)
       obtain ⟨R, hc0_, hf0_⟩ := s 0 (by decide)
       replace hc0_ : World.cell? M ⟨gK, oK + ks.length * 6, none⟩ = some R := hc0_
       replace hf0_ : World.frozen? M ⟨gK, oK + ks.length * 6, none⟩ = false := hf0_
       obtain ⟨a0, hc1_, hf1_⟩ := s 1 (by decide)
       replace hc1_ : World.cell? M ⟨gK, oK + ks.length * 6 + 1, none⟩ = some a0 := hc1_
       replace hf1_ : World.frozen? M ⟨gK, oK + ks.length * 6 + 1, none⟩ = false := hf1_
       obtain ⟨a1, hc2_, hf2_⟩ := s 2 (by decide)
       replace hc2_ : World.cell? M ⟨gK, oK + ks.length * 6 + 2, none⟩ = some a1 := hc2_
       replace hf2_ : World.frozen? M ⟨gK, oK + ks.length * 6 + 2, none⟩ = false := hf2_
       obtain ⟨a2, hc3_, hf3_⟩ := s 3 (by decide)
       replace hc3_ : World.cell? M ⟨gK, oK + ks.length * 6 + 3, none⟩ = some a2 := hc3_
       replace hf3_ : World.frozen? M ⟨gK, oK + ks.length * 6 + 3, none⟩ = false := hf3_
       obtain ⟨a3, hc4_, hf4_⟩ := s 4 (by decide)
       replace hc4_ : World.cell? M ⟨gK, oK + ks.length * 6 + 4, none⟩ = some a3 := hc4_
       replace hf4_ : World.frozen? M ⟨gK, oK + ks.length * 6 + 4, none⟩ = false := hf4_
       obtain ⟨a4, hc5_, hf5_⟩ := s 5 (by decide)
       replace hc5_ : World.cell? M ⟨gK, oK + ks.length * 6 + 5, none⟩ = some a4 := hc5_
       replace hf5_ : World.frozen? M ⟨gK, oK + ks.length * 6 + 5, none⟩ = false := hf5_
       obtain ⟨J, q⟩ : ∃ W_, W_ = World.setCells M gK (oK + ks.length * 6) [.int .i64 x.kind, .string x.text, .int .i64 x.place, .int .i64 x.n, .slice Ana x.names.length cna, .slice Aka x.kids.length cka] := ⟨_, rfl⟩
       rw [← q] at y
       refine skip_ (w1 := J) (by rfl) rfl ?_ ?_
       ·rw [q]
        clear q y
        go_simp
        (try rfl)
       have o := y.2
       have I := Z.out
       replace D := D.f1 o (by omega)
       replace p := p.p1 o (by omega)
       replace m := m.b1 o (by omega)
       replace e := e.b1 o (by omega)
       replace u := u.n1 o (fun k hk => by omega)
       clear I
       replace Z := Z.k o
       have U := Aside0.mk y.1
       clear y s hf0_ hf1_ hf2_ hf3_ hf4_ hf5_ hc0_ hc1_ hc2_ hc3_ hc4_ hc5_ o q v A
       refine hK.out _ _ ?_
       clear hK K
       apply la 10 none; intro K hK
       have s := e.z
       have a5 := e.c6
       have a6 := e.st 5 (.slice (some ⟨gK, oK, none⟩) (ks.length + 1) cK2) (cs' := #[a, b, c, .int .i64 0, .slice none 0 0, .slice (some ⟨gK, oK, none⟩) (ks.length + 1) cK2]) rfl
       clear e
       obtain ⟨v6, q, o, e⟩ := a6
       refine skip_ (w1 := v6) (by rfl) rfl ?_ ?_
       ·rw [← q]
        clear q
        go_simp
        (try rfl)
       have I := Z.out
       replace D := D.f1 o (by omega)
       replace p := p.p1 o (by omega)
       replace m := m.b1 o (by omega)
       replace u := u.n1 o (fun k hk => by omega)
       replace U := U.q1 o (fun k hk => by omega)
       clear I
       replace Z := Z.k o
       clear s a5 q o
       refine hK.out _ _ ?_
       clear hK K
       refine done_ (by kernel_rfl) ?_
       (try go_wp2)
       go_roundg k1
       case measure => omega
       case rel =>
        have P : (ks ++ [x]).length = ks.length + 1 := by simp
        exact ⟨l2, ks ++ [x], H, p, m, ⟨_, _, by rw [P]; exact e.out, by rw [P]; exact U.out⟩, D, ⟨by rw [P]; have := HL.out; omega⟩⟩
      ·skip
       have s := e.z
       have a5 := e.c6
       have a6 := e.st 5 (.slice (some ⟨gK, oK, none⟩) (ks.length + 1) cK2) (cs' := #[a, b, c, .int .i64 0, .slice none 0 0, .slice (some ⟨gK, oK, none⟩) (ks.length + 1) cK2]) rfl
       clear e
       obtain ⟨J, q, o, e⟩ := a6
       refine skip_ (w1 := J) (by rfl) rfl ?_ ?_
       ·rw [← q]
        clear q
        go_simp
        (try rfl)
       have I := Z.out
       replace D := D.f1 o (by omega)
       replace p := p.p1 o (by omega)
       replace m := m.b1 o (by omega)
       replace u := u.n1 o (fun k hk => by omega)
       clear I
       replace Z := Z.k o
       have b2 := Aside0.mk o
       clear s a5 q o
       refine hK.out _ _ ?_
       clear hK K
       apply la 8 none; intro K hK
       have y := v.out J x _ _ (fun k => k = g3) (fun k => (v1.heap.size ≤ k ∧ k < Q.heap.size)) b2.out (fun k (hk : (w.heap.size ≤ k ∧ k ≠ g3)) => (show ¬ (k = g3) from by have I := Z.out; omega)) u.out (fun k (hk : (v1.heap.size ≤ k ∧ k < Q.heap.size)) => (show ((w.heap.size ≤ k ∧ k ≠ g3)) ∧ k ≠ gK from by have I := Z.out; omega))
       have s := A.out J (fun k => k = g3) b2.out (by have I := Z.out; omega)
       obtain ⟨R, hc0_, hf0_⟩ := s 0 (by decide)
       replace hc0_ : World.cell? J ⟨gK, oK + ks.length * 6, none⟩ = some R := hc0_
       replace hf0_ : World.frozen? J ⟨gK, oK + ks.length * 6, none⟩ = false := hf0_
       obtain ⟨a0, hc1_, hf1_⟩ := s 1 (by decide)
       replace hc1_ : World.cell? J ⟨gK, oK + ks.length * 6 + 1, none⟩ = some a0 := hc1_
       replace hf1_ : World.frozen? J ⟨gK, oK + ks.length * 6 + 1, none⟩ = false := hf1_
       obtain ⟨a1, hc2_, hf2_⟩ := s 2 (by decide)
       replace hc2_ : World.cell? J ⟨gK, oK + ks.length * 6 + 2, none⟩ = some a1 := hc2_
       replace hf2_ : World.frozen? J ⟨gK, oK + ks.length * 6 + 2, none⟩ = false := hf2_
       obtain ⟨a2, hc3_, hf3_⟩ := s 3 (by decide)
       replace hc3_ : World.cell? J ⟨gK, oK + ks.length * 6 + 3, none⟩ = some a2 := hc3_
       replace hf3_ : World.frozen? J ⟨gK, oK + ks.length * 6 + 3, none⟩ = false := hf3_
       obtain ⟨a3, hc4_, hf4_⟩ := s 4 (by decide)
       replace hc4_ : World.cell? J ⟨gK, oK + ks.length * 6 + 4, none⟩ = some a3 := hc4_
       replace hf4_ : World.frozen? J ⟨gK, oK + ks.length * 6 + 4, none⟩ = false := hf4_
       obtain ⟨a4, hc5_, hf5_⟩ := s 5 (by decide)
       replace hc5_ : World.cell? J ⟨gK, oK + ks.length * 6 + 5, none⟩ = some a4 := hc5_
       replace hf5_ : World.frozen? J ⟨gK, oK + ks.length * 6 + 5, none⟩ = false := hf5_
       obtain ⟨v6, q⟩ : ∃ W_, W_ = World.setCells J gK (oK + ks.length * 6) [.int .i64 x.kind, .string x.text, .int .i64 x.place, .int .i64 x.n, .slice Ana x.names.length cna, .slice Aka x.kids.length cka] := ⟨_, rfl⟩
       rw [← q] at y
       refine skip_ (w1 := v6) (by rfl) rfl ?_ ?_
       ·rw [q]
        clear q y
        go_simp
        (try rfl)
       have o := y.2
       have I := Z.out
       replace D := D.f1 o (by omega)
       replace p := p.p1 o (by omega)
       replace m := m.b1 o (by omega)
       replace e := e.b1 o (by omega)
       replace u := u.n1 o (fun k hk => by omega)
       clear I
       replace Z := Z.k o
       have U := Aside0.mk y.1
       clear y s hf0_ hf1_ hf2_ hf3_ hf4_ hf5_ hc0_ hc1_ hc2_ hc3_ hc4_ hc5_ o q v A
       refine hK.out _ _ ?_
       clear hK K
       refine done_ (by kernel_rfl) ?_
       (try go_wp2)
       go_roundg k1
       case measure => omega
       case rel =>
        have P : (ks ++ [x]).length = ks.length + 1 := by simp
        exact ⟨l2, ks ++ [x], H, p, m, ⟨_, _, by rw [P]; exact e.out, by rw [P]; exact U.out⟩, D, ⟨by rw [P]; have := HL.out; omega⟩⟩
     ·skip
      refine newR_ (cs := #[.int .i64 0, .string ⟨#[]⟩, .int .i64 0, .int .i64 0, .slice none 0 0, .slice none 0 0]) (t := 36) (by rfl) rfl ?hr ?_
      (case hr => first | (go_simp; done) | (go_simp; rfl))
      intro bV Y Q O a8
      have o : Fr (fun _ => False) v1 Q := Fr.of_below a8
      replace D := D.f0 o
      replace p := p.p0 o
      replace m := m.b0 o
      replace e := e.b0 o
      replace U := U.q0 o
      replace Z := Z.k o
      replace Z := Aside0.mk (And.intro (Nat.le_of_eq Y.symm) Z.out)
      replace Z := Aside0.mk (And.intro (Nat.le_of_eq Y) Z.out)
      replace Z := Aside0.mk (And.intro (blk_lt O) Z.out)
      have C := Aside0.mk O
      clear Y O a8 o
      refine hK.out _ _ (show (Q.cell? ⟨g3, 5, none⟩ = some (.slice AK ks.length cK)) ∧ (Q.cell? ⟨g1, 0, none⟩ = some (.pointer (some ⟨pb, 0, none⟩))) from ⟨(blk_cell e.out 5).trans rfl, (blk_cell m.out 0).trans rfl⟩) (fun G => ?_)
      clear hK K
      apply nmA 10
      apply oN 3 (some 8); intro K hK
      refine goesR_ Try.func86 (by kernel_rfl) rfl #[.pointer (some ⟨pb, 0, none⟩)] (by rfl) rfl rfl (by (try simp only [List.map_toArray, List.map_cons, List.map_nil]); first | done | rfl) ?_
      refine (ihe _ (by have := HL.out; omega) _ _ _ _ _ _ he.out p.out).mono ?_
      rintro P v3 a7
      rcases r1 with x_ | ⟨x, l2⟩
      (obtain ⟨rfl, o⟩ := a7; obtain rfl : r = Except.error x_ := (Option.some.inj H.out).symm; exact Or.inr ⟨_, rfl, rfl, rfl, D.out.then_ o (fun k hk => .inl (.inl hk))⟩)
      obtain ⟨v_, rfl, ⟨nva, kva, rfl, V⟩, X, o⟩ := a7
      refine Or.inl ⟨_, rfl, ?_⟩
      obtain ⟨Ana, cna, rfl, _⟩ := Kd.Q_slice V.1
      obtain ⟨Aka, cka, rfl, _⟩ := Kd.Q_slice V.2
      replace p := Aside0.mk X
      have I := Z.out
      replace D := D.f1 o (by omega)
      replace m := m.b1 o (by omega)
      replace e := e.b1 o (by omega)
      replace U := U.q1 o (fun k hk => by omega)
      replace C := C.b1 o (by omega)
      clear I
      replace Z := Z.k o
      have u := Aside0.mk (V.mono (T := fun k => (Q.heap.size ≤ k ∧ k < v3.heap.size)) (fun k h1 h2 => ⟨h1, h2⟩))
      clear X V o
      refine hK.out _ _ (show (v3.cell? ⟨g3, 5, none⟩ = some (.slice AK ks.length cK)) ∧ (v3.cell? ⟨g1, 0, none⟩ = some (.pointer (some ⟨pb, 0, none⟩))) from ⟨(blk_cell e.out 5).trans rfl, (blk_cell m.out 0).trans rfl⟩) (fun G => ?_)
      clear hK K
      apply nmA 8
      apply oN 6 (some 11); intro K hK
      obtain ⟨gK, oK, cK2, M, b3, E, o, a9, Y, A, v⟩ := kid_append (W := v3) 34 v1.heap.size HM.out U.out (fun k hk => (show (w.heap.size ≤ k ∧ k ≠ g3) from by have I := Z.out; omega)) (show (w.heap.size ≤ bV ∧ bV ≠ g3) from by have I := Z.out; omega) C.out (by have := HL.out; omega)
      refine appendR_ (.tmp 6) (.tmp 10) (by rfl) rfl rfl rfl rfl E ?_
      replace Z := Aside0.mk (And.intro (a9) Z.out)
      replace Z := Aside0.mk (And.intro (Y) Z.out)
      clear a9 Y E
      replace A := Aside0.mk A
      replace v := Aside0.mk v
      clear C U HM
      have I := Z.out
      replace D := D.f1 o (by omega)
      replace p := p.p1 o (by omega)
      replace m := m.b1 o (by omega)
      replace e := e.b1 o (by omega)
      replace u := u.n1 o (fun k hk => by omega)
      clear I
      replace Z := Z.k o
      clear o
      refine hK.out _ _ (show (M.cell? ⟨g3, 5, none⟩ = some (.slice AK ks.length cK)) ∧ (M.cell? ⟨g1, 0, none⟩ = some (.pointer (some ⟨pb, 0, none⟩))) from ⟨(blk_cell e.out 5).trans rfl, (blk_cell m.out 0).trans rfl⟩) (fun G => ?_)
      clear hK K
      apply nmA 11
      have hix0 : (0 : Int) ≤ (ks.length : Int) := by omega
      have hix1 : (ks.length : Int) < (ks.length : Int) + 1 := by omega
      apply puA 7 12
      apply puA 9 13
      refine two_last_ (i := 8) (j := 10) (Ni := none) (Nj := none) #[true, true, true, true, true, true, true, true, true, true, false] #[true, true, true, true, true, true, true, true, false, true, true] rfl rfl rfl rfl (by kernel_rfl) (by decide) (by decide) (fun K hK => ?_) (fun K hK => ?_)
      ·skip
       have y := v.out M x _ _ (fun k => False) (fun k => (Q.heap.size ≤ k ∧ k < v3.heap.size)) (Fr.refl _ _) (fun k (hk : (w.heap.size ≤ k ∧ k ≠ g3)) => (show ¬ (False) from fun h => h)) u.out (fun k (hk : (Q.heap.size ≤ k ∧ k < v3.heap.size)) => (show ((w.heap.size ≤ k ∧ k ≠ g3)) ∧ k ≠ gK from by have I := Z.out; omega))
       have s := A.out M (fun k => False) (Fr.refl _ _) (fun h => h)
       obtain ⟨R, hc0_, hf0_⟩ := s 0 (by decide)
       replace hc0_ : World.cell? M ⟨gK, oK + ks.length * 6, none⟩ = some R := hc0_
       replace hf0_ : World.frozen? M ⟨gK, oK + ks.length * 6, none⟩ = false := hf0_
       obtain ⟨a0, hc1_, hf1_⟩ := s 1 (by decide)
       replace hc1_ : World.cell? M ⟨gK, oK + ks.length * 6 + 1, none⟩ = some a0 := hc1_
       replace hf1_ : World.frozen? M ⟨gK, oK + ks.length * 6 + 1, none⟩ = false := hf1_
       obtain ⟨a1, hc2_, hf2_⟩ := s 2 (by decide)
       replace hc2_ : World.cell? M ⟨gK, oK + ks.length * 6 + 2, none⟩ = some a1 := hc2_
       replace hf2_ : World.frozen? M ⟨gK, oK + ks.length * 6 + 2, none⟩ = false := hf2_
       obtain ⟨a2, hc3_, hf3_⟩ := s 3 (by decide)
       replace hc3_ : World.cell? M ⟨gK, oK + ks.length * 6 + 3, none⟩ = some a2 := hc3_
       replace hf3_ : World.frozen? M ⟨gK, oK + ks.length * 6 + 3, none⟩ = false := hf3_
       obtain ⟨a3, hc4_, hf4_⟩ := s 4 (by decide)
       replace hc4_ : World.cell? M ⟨gK, oK + ks.length * 6 + 4, none⟩ = some a3 := hc4_
       replace hf4_ : World.frozen? M ⟨gK, oK + ks.length * 6 + 4, none⟩ = false := hf4_
       obtain ⟨a4, hc5_, hf5_⟩ := s 5 (by decide)
       replace hc5_ : World.cell? M ⟨gK, oK + ks.length * 6 + 5, none⟩ = some a4 := hc5_
       replace hf5_ : World.frozen? M ⟨gK, oK + ks.length * 6 + 5, none⟩ = false := hf5_
       obtain ⟨J, q⟩ : ∃ W_, W_ = World.setCells M gK (oK + ks.length * 6) [.int .i64 x.kind, .string x.text, .int .i64 x.place, .int .i64 x.n, .slice Ana x.names.length cna, .slice Aka x.kids.length cka] := ⟨_, rfl⟩
       rw [← q] at y
       refine skip_ (w1 := J) (by rfl) rfl ?_ ?_
       ·rw [q]
        clear q y
        go_simp
        (try rfl)
       have o := y.2
       have I := Z.out
       replace D := D.f1 o (by omega)
       replace p := p.p1 o (by omega)
       replace m := m.b1 o (by omega)
       replace e := e.b1 o (by omega)
       replace u := u.n1 o (fun k hk => by omega)
       clear I
       replace Z := Z.k o
       have U := Aside0.mk y.1
       clear y s hf0_ hf1_ hf2_ hf3_ hf4_ hf5_ hc0_ hc1_ hc2_ hc3_ hc4_ hc5_ o q v A
       refine hK.out _ _ ?_
       clear hK K
       apply la 10 none; intro K hK
       have s := e.z
       have a5 := e.c6
       have a6 := e.st 5 (.slice (some ⟨gK, oK, none⟩) (ks.length + 1) cK2) (cs' := #[a, b, c, .int .i64 0, .slice none 0 0, .slice (some ⟨gK, oK, none⟩) (ks.length + 1) cK2]) rfl
       clear e
       obtain ⟨v6, q, o, e⟩ := a6
       refine skip_ (w1 := v6) (by rfl) rfl ?_ ?_
       ·rw [← q]
        clear q
        go_simp
        (try rfl)
       have I := Z.out
       replace D := D.f1 o (by omega)
       replace p := p.p1 o (by omega)
       replace m := m.b1 o (by omega)
       replace u := u.n1 o (fun k hk => by omega)
       replace U := U.q1 o (fun k hk => by omega)
       clear I
       replace Z := Z.k o
       clear s a5 q o
       refine hK.out _ _ ?_
       clear hK K
       refine done_ (by kernel_rfl) ?_
       (try go_wp2)
       go_roundg k1
       case measure => omega
       case rel =>
        have P : (ks ++ [x]).length = ks.length + 1 := by simp
        exact ⟨l2, ks ++ [x], H, p, m, ⟨_, _, by rw [P]; exact e.out, by rw [P]; exact U.out⟩, D, ⟨by rw [P]; have := HL.out; omega⟩⟩
      ·skip
       have s := e.z
       have a5 := e.c6
       have a6 := e.st 5 (.slice (some ⟨gK, oK, none⟩) (ks.length + 1) cK2) (cs' := #[a, b, c, .int .i64 0, .slice none 0 0, .slice (some ⟨gK, oK, none⟩) (ks.length + 1) cK2]) rfl
       clear e
       obtain ⟨J, q, o, e⟩ := a6
       refine skip_ (w1 := J) (by rfl) rfl ?_ ?_
       ·rw [← q]
        clear q
        go_simp
        (try rfl)
       have I := Z.out
       replace D := D.f1 o (by omega)
       replace p := p.p1 o (by omega)
       replace m := m.b1 o (by omega)
       replace u := u.n1 o (fun k hk => by omega)
       clear I
       replace Z := Z.k o
       have b2 := Aside0.mk o
       clear s a5 q o
       refine hK.out _ _ ?_
       clear hK K
       apply la 8 none; intro K hK
       have y := v.out J x _ _ (fun k => k = g3) (fun k => (Q.heap.size ≤ k ∧ k < v3.heap.size)) b2.out (fun k (hk : (w.heap.size ≤ k ∧ k ≠ g3)) => (show ¬ (k = g3) from by have I := Z.out; omega)) u.out (fun k (hk : (Q.heap.size ≤ k ∧ k < v3.heap.size)) => (show ((w.heap.size ≤ k ∧ k ≠ g3)) ∧ k ≠ gK from by have I := Z.out; omega))
       have s := A.out J (fun k => k = g3) b2.out (by have I := Z.out; omega)
       obtain ⟨R, hc0_, hf0_⟩ := s 0 (by decide)
       replace hc0_ : World.cell? J ⟨gK, oK + ks.length * 6, none⟩ = some R := hc0_
       replace hf0_ : World.frozen? J ⟨gK, oK + ks.length * 6, none⟩ = false := hf0_
       obtain ⟨a0, hc1_, hf1_⟩ := s 1 (by decide)
       replace hc1_ : World.cell? J ⟨gK, oK + ks.length * 6 + 1, none⟩ = some a0 := hc1_
       replace hf1_ : World.frozen? J ⟨gK, oK + ks.length * 6 + 1, none⟩ = false := hf1_
       obtain ⟨a1, hc2_, hf2_⟩ := s 2 (by decide)
       replace hc2_ : World.cell? J ⟨gK, oK + ks.length * 6 + 2, none⟩ = some a1 := hc2_
       replace hf2_ : World.frozen? J ⟨gK, oK + ks.length * 6 + 2, none⟩ = false := hf2_
       obtain ⟨a2, hc3_, hf3_⟩ := s 3 (by decide)
       replace hc3_ : World.cell? J ⟨gK, oK + ks.length * 6 + 3, none⟩ = some a2 := hc3_
       replace hf3_ : World.frozen? J ⟨gK, oK + ks.length * 6 + 3, none⟩ = false := hf3_
       obtain ⟨a3, hc4_, hf4_⟩ := s 4 (by decide)
       replace hc4_ : World.cell? J ⟨gK, oK + ks.length * 6 + 4, none⟩ = some a3 := hc4_
       replace hf4_ : World.frozen? J ⟨gK, oK + ks.length * 6 + 4, none⟩ = false := hf4_
       obtain ⟨a4, hc5_, hf5_⟩ := s 5 (by decide)
       replace hc5_ : World.cell? J ⟨gK, oK + ks.length * 6 + 5, none⟩ = some a4 := hc5_
       replace hf5_ : World.frozen? J ⟨gK, oK + ks.length * 6 + 5, none⟩ = false := hf5_
       obtain ⟨v6, q⟩ : ∃ W_, W_ = World.setCells J gK (oK + ks.length * 6) [.int .i64 x.kind, .string x.text, .int .i64 x.place, .int .i64 x.n, .slice Ana x.names.length cna, .slice Aka x.kids.length cka] := ⟨_, rfl⟩
       rw [← q] at y
       refine skip_ (w1 := v6) (by rfl) rfl ?_ ?_
       ·rw [q]
        clear q y
        go_simp
        (try rfl)
       have o := y.2
       have I := Z.out
       replace D := D.f1 o (by omega)
       replace p := p.p1 o (by omega)
       replace m := m.b1 o (by omega)
       replace e := e.b1 o (by omega)
       replace u := u.n1 o (fun k hk => by omega)
       clear I
       replace Z := Z.k o
       have U := Aside0.mk y.1
       clear y s hf0_ hf1_ hf2_ hf3_ hf4_ hf5_ hc0_ hc1_ hc2_ hc3_ hc4_ hc5_ o q v A
       refine hK.out _ _ ?_
       clear hK K
       refine done_ (by kernel_rfl) ?_
       (try go_wp2)
       go_roundg k1
       case measure => omega
       case rel =>
        have P : (ks ++ [x]).length = ks.length + 1 := by simp
        exact ⟨l2, ks ++ [x], H, p, m, ⟨_, _, by rw [P]; exact e.out, by rw [P]; exact U.out⟩, D, ⟨by rw [P]; have := HL.out; omega⟩⟩
end Go.Proofs.Ytpodpmjlkbbkoaa.P
set_option maxHeartbeats 16000000
set_option maxRecDepth 100000
namespace Go.Proofs.Ytpodpmjlkbbkoaa.P
open Go.RowKit Go.Proofs.YtpodpmjlkbbkoaaW.PrintWords Go.Proofs.YtpodpmjlkbbkoaaW.PrintLast Go.Proofs.YtpodpmjlkbbkoaaW.PrintMore
variable [Low]
theorem AnsC.imp {α : Type} {r : Except (Int × Int) (α × List S28)} {B pb : Nat} {d : Int} {X : Nat → Prop} {w : World} {ok ok' : α → World → Prop} {e : Ending} {w' : World} (h : AnsC r B pb d X w ok e w') (hi : ∀ a w', Fr X w w' → ok a w' → ok' a w') : AnsC r B pb d X w ok' e w' := by
 rcases r with x | x
 ·exact h
 ·exact ⟨h.1, hi _ _ h.2.2.2 h.2.1, h.2.2⟩
omit [Low] in
theorem Kids.mono {g : Nat} {S T : Nat → Prop} {a b c d e : Value} {ks : List SP.Nd} {w : World} (h : Kids g S a b c d e ks w) (hs : ∀ k, S k → k < w.heap.size → T k) : Kids g T a b c d e ks w := by
 obtain ⟨A, c', h1, h2⟩ := h
 exact ⟨A, c', h1, Q_mono' h2 hs⟩
theorem tree_list.poor {B pb : Nat} {t : S28} {l1 : List S28} {d : Int} (w : World) (h : PS B w pb (t :: l1) d) (hd : (d == 40) = true) :
  Calls Try.prog 82 #[.pointer (some ⟨pb, 0, none⟩)] w (Ans (.error (t.f2, 3)) B pb d w (fun x v w' => NV (fun q => w.heap.size ≤ q) w' x v)) := by
 have hu36 := Try.underlying36
 have hmf : ∀ (fn : Fn) (first cap : Array Value) (w : World), (Instr.makeFunc fn first cap).run Try.prog w = .ok (.func fn first cap) w := fun _ _ _ _ => rfl
 have I := Aside0.mk (Fr.refl (fun k => k = pb) w)
 have j := Aside0.mk h
 have Z := Aside0.mk (And.intro j.out.1 (And.intro j.out.2.1 (Nat.le_refl w.heap.size)))
 clear h
 go_enter Try.func82, Try.ntmps82
 go_wp2_with (first
  | ((with_reducible refine gate_dst (N := 1) rfl ?_); apply boxE 1 #[.pointer (some ⟨pb, 0, none⟩)] 45; intro u C c m p; replace I := I.f0 m; replace j := j.p0 m; replace Z := Z.a p; clear p m; have b := c.c1)
  | ((with_reducible refine gate_dst (N := 2) rfl ?_); apply boxE 2 #[.int .i64 0, .string ⟨#[]⟩, .int .i64 0, .int .i64 0, .slice none 0 0, .slice none 0 0] 36; intro n E l m p; replace I := I.f0 m; replace j := j.p0 m; replace c := c.b0 m; replace Z := Z.a p; clear p m; clear b; have b := c.c1; have e := l.e6; have r : n ≠ u ∧ u ≠ n := (by have V := Z.out; omega); clear b e r; have b := c.c1; have e := l.e6; have r : n ≠ u ∧ u ≠ n := (by have V := Z.out; omega); obtain ⟨X, F, U⟩ := j.out.blk_; have i := Aside0.mk U; clear U; clear b e r; have b := c.c1; have e := l.e6; have o := i.c2; have r : n ≠ u ∧ u ≠ n ∧ n ≠ pb ∧ pb ≠ n := (by have V := Z.out; omega); obtain ⟨J, M, y, z, A⟩ := j.out.cells_ i.out; have O : (0 : Int) < ((t :: l1).length : Int) := (by simp only [List.length_cons]; omega))
  | ((with_reducible refine gate_dst (N := 3) rfl ?_); apply boxE 3 #[.int .i64 0, .string ⟨#[]⟩, .int .i64 0, .int .i64 0, .slice none 0 0, .slice none 0 0] 36; intro D H s m p; replace I := I.f0 m; replace j := j.p0 m; replace c := c.b0 m; replace l := l.b0 m; replace i := i.b0 m; replace Z := Z.a p; clear p m; clear b e o r y z A O J M; have b := c.c1; have e := l.e6; have o := i.c2; have G := s.e6; have r : D ≠ u ∧ u ≠ D ∧ D ≠ n ∧ n ≠ D ∧ D ≠ pb ∧ pb ≠ D ∧ n ≠ u ∧ u ≠ n ∧ n ≠ pb ∧ pb ≠ n := (by have V := Z.out; omega); obtain ⟨J, M, y, z, A⟩ := j.out.cells_ i.out; have O : (0 : Int) < ((t :: l1).length : Int) := (by simp only [List.length_cons]; omega))
  | ((with_reducible refine gate_dst (N := 14) rfl ?_); (try (refine gate_guard (by rfl) ?_; dsimp only)); have Y := s.s6 (.int .i64 4) (.string ⟨#[]⟩) (.int .i64 t.f2) (.int .i64 0) (.slice none 0 0) (.slice none 0 0); clear s; obtain ⟨K, W, m, s⟩ := Y; rw [W]; clear W; have V := Z.out; replace I := I.f1 m (by omega); replace j := j.p1 m (by omega); replace c := c.b1 m (by omega); replace l := l.b1 m (by omega); replace i := i.b1 m (by omega); clear V; replace Z := Z.k m; clear m; clear b e o G r y z A O J M; have b := c.c1; have e := l.e6; have o := i.c2; have G := s.e6; have r : D ≠ u ∧ u ≠ D ∧ D ≠ n ∧ n ≠ D ∧ D ≠ pb ∧ pb ≠ D ∧ n ≠ u ∧ u ≠ n ∧ n ≠ pb ∧ pb ≠ n := (by have V := Z.out; omega); obtain ⟨J, M, y, z, A⟩ := j.out.cells_ i.out; have O : (0 : Int) < ((t :: l1).length : Int) := (by simp only [List.length_cons]; omega); clear i; apply goE 14 Try.func62 (tree_within.poor _ 85 _ _ j.out hd); rintro L w_ ⟨rfl, m⟩; exact Or.inr ⟨_, rfl, rfl, rfl, I.out.then_ m (fun k hk => .inl hk)⟩))
theorem tree_list.good {k : Nat} (ihe : ∀ j, j ≤ k → CN 86 SP.elem j) (hk : k ≤ 1073741824) {B pb : Nat} {t : S28} {l1 : List S28} {d : Int} {r : Except (Int × Int) (SP.Nd × List S28)} {rc : Except (Int × Int) (List SP.Nd × List S28)} (w : World) (h : PS B w pb (t :: l1) d) (hd : (d == 40) = false)
  (hc : Aside0 (SP.bind (SP.elems k (d + 1) (SP.tl (t :: l1)) []) (fun ks l3 => SP.ret ks (SP.tl l3)) = some rc)) (H : Aside0 (SP.bind (some rc) (fun ks l3 => SP.ret (SP.Nd.mk 4 SP.E t.f2 0 [] ks) l3) = some r)) :
  Calls Try.prog 82 #[.pointer (some ⟨pb, 0, none⟩)] w (Ans r B pb d w (fun x v w' => NV (fun q => w.heap.size ≤ q) w' x v)) := by
 have hu36 := Try.underlying36
 have hmf : ∀ (fn : Fn) (first cap : Array Value) (w : World), (Instr.makeFunc fn first cap).run Try.prog w = .ok (.func fn first cap) w := fun _ _ _ _ => rfl
 have U := Aside0.mk (Fr.refl (fun k => k = pb) w)
 have n := Aside0.mk h
 have Z := Aside0.mk (And.intro n.out.1 (And.intro n.out.2.1 (Nat.le_refl w.heap.size)))
 clear h
 go_enter Try.func82, Try.ntmps82
 go_wp2_with (first
  | ((with_reducible refine gate_dst (N := 1) rfl ?_); apply boxE 1 #[.pointer (some ⟨pb, 0, none⟩)] 45; intro y v1 b o I; replace U := U.f0 o; replace n := n.p0 o; replace Z := Z.a I; clear I o; have c := b.c1)
  | ((with_reducible refine gate_dst (N := 2) rfl ?_); apply boxE 2 #[.int .i64 0, .string ⟨#[]⟩, .int .i64 0, .int .i64 0, .slice none 0 0, .slice none 0 0] 36; intro u v2 i o I; replace U := U.f0 o; replace n := n.p0 o; replace b := b.b0 o; replace Z := Z.a I; clear I o; clear c; have c := b.c1; have l := i.e6; have A : u ≠ y ∧ y ≠ u := (by have G := Z.out; omega); clear c l A; have c := b.c1; have l := i.e6; have A : u ≠ y ∧ y ≠ u := (by have G := Z.out; omega); obtain ⟨a3, cP, C⟩ := n.out.blk_; have p := Aside0.mk C; clear C; clear c l A; have c := b.c1; have l := i.e6; have D := p.c2; have A : u ≠ y ∧ y ≠ u ∧ u ≠ pb ∧ pb ≠ u := (by have G := Z.out; omega); obtain ⟨V, W, J, M, O⟩ := n.out.cells_ p.out; have Y : (0 : Int) < ((t :: l1).length : Int) := (by simp only [List.length_cons]; omega))
  | ((with_reducible refine gate_dst (N := 3) rfl ?_); apply boxE 3 #[.int .i64 0, .string ⟨#[]⟩, .int .i64 0, .int .i64 0, .slice none 0 0, .slice none 0 0] 36; intro m v3 s o I; replace U := U.f0 o; replace n := n.p0 o; replace b := b.b0 o; replace i := i.b0 o; replace p := p.b0 o; replace Z := Z.a I; clear I o; clear c l D A J M O Y V W; have c := b.c1; have l := i.e6; have D := p.c2; have z := s.e6; have A : m ≠ y ∧ y ≠ m ∧ m ≠ u ∧ u ≠ m ∧ m ≠ pb ∧ pb ≠ m ∧ u ≠ y ∧ y ≠ u ∧ u ≠ pb ∧ pb ≠ u := (by have G := Z.out; omega); obtain ⟨V, W, J, M, O⟩ := n.out.cells_ p.out; have Y : (0 : Int) < ((t :: l1).length : Int) := (by simp only [List.length_cons]; omega))
  | ((with_reducible refine gate_dst (N := 14) rfl ?_); (try (refine gate_guard (by rfl) ?_; dsimp only)); have P := s.s6 (.int .i64 4) (.string ⟨#[]⟩) (.int .i64 t.f2) (.int .i64 0) (.slice none 0 0) (.slice none 0 0); clear s; obtain ⟨Q, X, o, s⟩ := P; rw [X]; clear X; have G := Z.out; replace U := U.f1 o (by omega); replace n := n.p1 o (by omega); replace b := b.b1 o (by omega); replace i := i.b1 o (by omega); replace p := p.b1 o (by omega); clear G; replace Z := Z.k o; clear o; clear c l D z A J M O Y V W; have c := b.c1; have l := i.e6; have D := p.c2; have z := s.e6; have A : m ≠ y ∧ y ≠ m ∧ m ≠ u ∧ u ≠ m ∧ m ≠ pb ∧ pb ≠ m ∧ u ≠ y ∧ y ≠ u ∧ u ≠ pb ∧ pb ≠ u := (by have G := Z.out; omega); obtain ⟨V, W, J, M, O⟩ := n.out.cells_ p.out; have Y : (0 : Int) < ((t :: l1).length : Int) := (by simp only [List.length_cons]; omega); clear p; refine goesP_ (some 14) rfl rfl Try.func62 (by kernel_rfl) rfl #[.pointer (some ⟨pb, 0, none⟩), .func (.func 85) #[] #[.pointer (some ⟨y, 0, none⟩), .pointer (some ⟨m, 0, none⟩)]] rfl (by (try simp only [List.map_toArray, List.map_cons, List.map_nil]); first | done | rfl) ?_; have F : ∀ w2, PS B w2 pb (SP.tl (t :: l1)) (d + 1) → Fr (fun k => k = pb) Q w2 → Calls Try.prog 85 #[.pointer (some ⟨y, 0, none⟩), .pointer (some ⟨m, 0, none⟩)] w2 (AnsC rc B pb (d + 1) (fun k => k = pb ∨ k = m) w2 (Kids m (fun k => Q.heap.size ≤ k ∧ k ≠ m) (.int .i64 4) (.string ⟨#[]⟩) (.int .i64 t.f2) (.int .i64 0) (.slice none 0 0))) := (fun w2 hps2 hf2 => (tree_list1.calls ihe w2 _ _ _ hps2 (hf2.blk b.out (show ¬ (y = pb) from by have G := Z.out; omega)) (hf2.blk s.out (show ¬ (m = pb) from by have G := Z.out; omega)) (by have G := Z.out; omega) (by have G := Z.out; omega) (by have G := Z.out; omega) hk hc.out).mono (fun e w' h_ => h_.imp (fun a w' _ a1 => a1.mono (fun k R a4 => (show _ ∧ _ from ⟨Nat.le_trans hf2.size R.1, R.2⟩))))); have K : ∀ a w1 w2, (Kids m (fun k => Q.heap.size ≤ k ∧ k ≠ m) (.int .i64 4) (.string ⟨#[]⟩) (.int .i64 t.f2) (.int .i64 0) (.slice none 0 0)) a w1 → Fr (fun k => k = pb) w1 w2 → (Kids m (fun k => Q.heap.size ≤ k ∧ k ≠ m) (.int .i64 4) (.string ⟨#[]⟩) (.int .i64 t.f2) (.int .i64 0) (.slice none 0 0)) a w2 := (fun a_ w1_ w2_ h_ a2 => h_.fr a2 (show ¬ (m = pb) from by have G := Z.out; omega) (fun k hk => (show ¬ (k = pb) from by have G := Z.out; have a5 : Q.heap.size ≤ k ∧ k ≠ m := hk; omega))); refine (tree_within.good _ 85 Try.func85 (by kernel_rfl) rfl #[] #[.pointer (some ⟨y, 0, none⟩), .pointer (some ⟨m, 0, none⟩)] #[.pointer (some ⟨y, 0, none⟩), .pointer (some ⟨m, 0, none⟩)] (by simp) (fun k => k = pb ∨ k = m) (fun k hk => .inl hk) (Kids m (fun k => Q.heap.size ≤ k ∧ k ≠ m) (.int .i64 4) (.string ⟨#[]⟩) (.int .i64 t.f2) (.int .i64 0) (.slice none 0 0)) K rc F n.out hd).mono ?_; clear K F; rintro e_ v5 S; rcases rc with x_ | ⟨ks, l2⟩; (obtain ⟨rfl, o⟩ := S; obtain rfl : r = Except.error x_ := (Option.some.inj H.out).symm; exact Or.inr ⟨_, rfl, rfl, rfl, U.out.then_ o (fun k (hk : k = pb ∨ k = m) => (show k = pb ∨ w.heap.size ≤ k from by have G := Z.out; omega))⟩); obtain ⟨rfl, ⟨AK, cK, T, a0⟩, L, o⟩ := S; obtain rfl : r = Except.ok (SP.Nd.mk 4 ⟨#[]⟩ t.f2 0 [] ks, l2) := (Option.some.inj H.out).symm; refine Or.inl ⟨_, rfl, ?_⟩; replace n := Aside0.mk L; replace s := Aside0.mk T; have QK := Aside0.mk a0; have G := Z.out; replace U := Aside0.mk (U.out.then_ o (fun k (hk : (k = pb ∨ k = m)) => (show (k = pb) ∨ w.heap.size ≤ k from by omega))); replace b := Aside0.mk (o.blk b.out (show ¬ ((y = pb ∨ y = m)) from by omega)); replace i := Aside0.mk (o.blk i.out (show ¬ ((u = pb ∨ u = m)) from by omega)); clear G; replace Z := Z.k o; clear L T a0 o; clear c l D z A J M O Y V W; have c := b.c1; have l := i.e6; have z := s.e6; have A : m ≠ y ∧ y ≠ m ∧ m ≠ u ∧ u ≠ m ∧ u ≠ y ∧ y ≠ u := (by have G := Z.out; omega)))
 have P := i.s6 (.int .i64 4) (.string ⟨#[]⟩) (.int .i64 t.f2) (.int .i64 0) (.slice none 0 0) (.slice AK ks.length cK)
 clear i
 obtain ⟨v6, X, o, i⟩ := P
 rw [X]
 clear X
 have G := Z.out
 replace U := U.f1 o (by omega)
 replace n := n.p1 o (by omega)
 replace b := b.b1 o (by omega)
 replace s := s.b1 o (by omega)
 replace QK := QK.q1 o (fun k hk => by omega)
 clear G
 replace Z := Z.k o
 clear o
 clear c l z A
 have c := b.c1
 have l := i.e6
 have z := s.e6
 have A : m ≠ y ∧ y ≠ m ∧ m ≠ u ∧ u ≠ m ∧ u ≠ y ∧ y ≠ u := (by have G := Z.out; omega)
 refine bodyPost_ret (results_c rfl _ _ u 36 _ (0, 0) _ rfl i.out hu36 rfl rfl) rfl ?_
 exact ⟨_, rfl, ⟨_, _, rfl, Kd.Q_nil _ _ _ _ _, Q_mono' QK.out (fun k h1 h2 => (show w.heap.size ≤ k from by have G := Z.out; have h3 : Q.heap.size ≤ k ∧ k ≠ m := h1; omega))⟩, n.out, U.out⟩
theorem tree_list.step {k : Nat} (ihe : ∀ j, j ≤ k → CN 86 SP.elem j) (hk : k ≤ 1073741824) : CN 82 SP.list (k + 1) := by
 intro B pb d l r w hr h
 cases l with
 | nil => simp [SP.list, SP.top] at hr
 | cons t l =>
  simp only [SP.list, SP.top, SP.within] at hr
  by_cases hd : d = 40
  ·rw [if_pos hd] at hr
   simp only [SP.bad, SP.top, Option.some.injEq] at hr
   subst hr
   exact tree_list.poor w h (bt_ hd)
  ·rw [if_neg hd] at hr
   cases he : SP.elems k (d + 1) (SP.tl (t :: l)) [] with
   | none => rw [he] at hr; simp [SP.bind] at hr
   | some re =>
    rw [he] at hr
    rcases re with x | ⟨ks, l3⟩
    ·exact tree_list.good ihe hk (rc := .error x) w h (bf_ hd) ⟨by rw [he]; rfl⟩ ⟨hr⟩
    ·exact tree_list.good ihe hk (rc := .ok (ks, SP.tl l3)) w h (bf_ hd) ⟨by rw [he]; rfl⟩ ⟨hr⟩
end Go.Proofs.Ytpodpmjlkbbkoaa.P
set_option maxHeartbeats 16000000
set_option maxRecDepth 100000
namespace Go.Proofs.Ytpodpmjlkbbkoaa.P
open Go.RowKit Go.Proofs.YtpodpmjlkbbkoaaW.PrintWords Go.Proofs.YtpodpmjlkbbkoaaW.PrintLast Go.Proofs.YtpodpmjlkbbkoaaW.PrintMore
variable [Low]
omit [Low] in
theorem field64_1 (a b c : Value) (w : World) : Sem.run Try.prog (Instr.field 64 (.agg #[a, b, c]) 1) w = .ok b w := by kernel_rfl
omit [Low] in
theorem field64_2 (a b c : Value) (w : World) : Sem.run Try.prog (Instr.field 64 (.agg #[a, b, c]) 2) w = .ok c w := by kernel_rfl
attribute [local go_sem] field64_1 field64_2
omit [Low] in
omit [Low] in
theorem row_lits {S : Nat → Prop} {w : World} {b : Nat} {xs : List SP.Nd} {cs : List Value} (hb : w.heap[b]? = some (.cells cs.toArray 36 (0, 0))) (hr : Reps (kNd.M w 0 (fun k => S k ∧ k ≠ b)) 6 xs cs) (hn : xs.length ≤ 1000) (hS : S b) : kNd.Q 36 w 0 S (.slice (some ⟨b, 0, none⟩) xs.length xs.length) xs := by
 refine ⟨fun k hk => (by injection hk with hk; exact hk ▸ hS), cs, ⟨hr.1, .inr ⟨b, 0, xs.length, cs.toArray, by rw [Nat.zero_mul], Nat.zero_le _, hb, Nat.le_refl _, by simp only [maxLen]; omega, by rw [Nat.zero_add]; exact hr.1, ?_⟩⟩, hr.imp_ (fun p c hp => kNd.M_mono (fun k hk => ⟨hk.1, fun e => hk.2 (by injection e)⟩) hp)⟩
 rw [Nat.zero_mul, List.drop_zero]
 exact List.take_of_length_le (Nat.le_of_eq hr.1)
omit [Low] in
theorem row_one {S T : Nat → Prop} {w : World} {b : Nat} {x : SP.Nd} {nv kv : Value} (hb : w.heap[b]? = some (.cells #[.int .i64 x.kind, .string x.text, .int .i64 x.place, .int .i64 x.n, nv, kv] 36 (0, 0))) (hx : NQ T w x nv kv) (hT : ∀ k, T k → S k ∧ k ≠ b) (hS : S b) : kNd.Q 36 w 0 S (.slice (some ⟨b, 0, none⟩) 1 1) [x] :=
 row_lits (xs := [x]) hb (Reps.snoc (Reps.none _ _) (kNd.M_mono hT hx.M) rfl) (by simp) hS
theorem tree_statement.plain {k : Nat} (ihx : CN 48 SP.expr k) {B pb : Nat} {t : S28} {l1 : List S28} {d : Int} {r : Except (Int × Int) ((SP.Nd × Bool) × List S28)} {r1 : Except (Int × Int) (SP.Nd × List S28)} (w : World) (h : PS B w pb (t :: l1) d) (c13 : (t.f0 != 13) = true) (hx : SP.expr k d (t :: l1) = some r1) (H : Aside0 (SP.bind (some r1) (fun n l2 => SP.ret (n, false) l2) = some r)) :
  Calls Try.prog 33 #[.pointer (some ⟨pb, 0, none⟩)] w (Ans r B pb d w (fun x v w' => ∃ u, v = .tuple #[u, .bool x.2] ∧ NV (fun q => w.heap.size ≤ q) w' x.1 u)) := by
 have hu36 := Try.underlying36
 have l := Aside0.mk (Fr.refl (fun k => k = pb) w)
 have c := Aside0.mk h
 have Z := Aside0.mk (And.intro c.out.1 (And.intro c.out.2.1 (Nat.le_refl w.heap.size)))
 clear h
 go_enter Try.func33, Try.ntmps33
 go_wp2_with (first
  | ((with_reducible refine gate_dst (N := 2) rfl ?_); apply boxE 2 #[.int .i64 0, .string ⟨#[]⟩, .int .i64 0, .int .i64 0, .slice none 0 0, .slice none 0 0] 36; intro D G b i p; replace l := l.f0 i; replace c := c.p0 i; replace Z := Z.a p; clear p i; have e := b.e6)
  | ((with_reducible refine gate_dst (N := 6) rfl ?_); (try (refine gate_guard (by rfl) ?_; dsimp only)); apply kindE 6 c)
  | ((with_reducible refine gate_dst (N := 9) rfl ?_); (try (refine gate_guard (by rfl) ?_; dsimp only)); apply goE 9 Try.func48 (ihx _ _ _ _ _ _ hx c.out); rintro J I s; rcases r1 with x_ | ⟨x, l2⟩; (obtain ⟨rfl, i⟩ := s; obtain rfl : r = Except.error x_ := (Option.some.inj H.out).symm; exact Or.inr ⟨_, rfl, rfl, rfl, l.out.then_ i (fun k hk => .inl hk)⟩); obtain ⟨v_, rfl, ⟨nva, kva, rfl, j⟩, m, i⟩ := s; refine Or.inl ⟨_, rfl, ?_⟩; obtain ⟨Ana, cna, rfl, _⟩ := Kd.Q_slice j.1; obtain ⟨Aka, cka, rfl, _⟩ := Kd.Q_slice j.2; replace c := Aside0.mk m; have z := Z.out; replace l := l.f1 i (by omega); replace b := b.b1 i (by omega); clear z; replace Z := Z.k i; have o := Aside0.mk (j.mono (T := fun k => (G.heap.size ≤ k ∧ k < I.heap.size)) (fun k h1 h2 => ⟨h1, h2⟩)); clear m j i; clear e; have e := b.e6; obtain rfl : r = Except.ok ((x, false), l2) := (Option.some.inj H.out).symm))
 have A := b.s6 (.int .i64 x.kind) (.string x.text) (.int .i64 x.place) (.int .i64 x.n) (.slice Ana x.names.length cna) (.slice Aka x.kids.length cka)
 clear b
 obtain ⟨M, y, i, b⟩ := A
 rw [y]
 clear y
 have z := Z.out
 replace l := l.f1 i (by omega)
 replace c := c.p1 i (by omega)
 replace o := o.n1 i (fun k hk => by omega)
 clear z
 replace Z := Z.k i
 clear i
 clear e
 have e := b.e6
 refine bodyPost_ret (results_ct rfl _ _ D 36 _ (0, 0) _ rfl b.out hu36 rfl rfl) rfl ?_
 exact ⟨_, rfl, ⟨_, rfl, _, _, rfl, o.out.mono (fun k h1 h2 => (show w.heap.size ≤ k from by have z := Z.out; omega))⟩, c.out, l.out⟩
theorem tree_statement.caret {k : Nat} (ihx : CN 48 SP.expr k) {B pb : Nat} {t : S28} {l1 : List S28} {d : Int} {r : Except (Int × Int) ((SP.Nd × Bool) × List S28)} {r1 : Except (Int × Int) (SP.Nd × List S28)} (w : World) (h : PS B w pb (t :: l1) d) (c13 : (t.f0 != 13) = false) (hx : SP.expr k d (SP.tl (t :: l1)) = some r1) (H : Aside0 (SP.bind (some r1) (fun n l2 => SP.ret (SP.Nd.mk 11 SP.E t.f2 0 [] [n], true) l2) = some r)) :
  Calls Try.prog 33 #[.pointer (some ⟨pb, 0, none⟩)] w (Ans r B pb d w (fun x v w' => ∃ u, v = .tuple #[u, .bool x.2] ∧ NV (fun q => w.heap.size ≤ q) w' x.1 u)) := by
 have hu36 := Try.underlying36
 have hu64 := Try.underlying64
 have o := Aside0.mk (Fr.refl (fun k => k = pb) w)
 have l := Aside0.mk h
 have Z := Aside0.mk (And.intro l.out.1 (And.intro l.out.2.1 (Nat.le_refl w.heap.size)))
 clear h
 go_enter Try.func33, Try.ntmps33
 go_wp2_with (first
  | ((with_reducible refine gate_dst (N := 2) rfl ?_); apply boxE 2 #[.int .i64 0, .string ⟨#[]⟩, .int .i64 0, .int .i64 0, .slice none 0 0, .slice none 0 0] 36; intro p X b i s; replace o := o.f0 i; replace l := l.p0 i; replace Z := Z.a s; clear s i; have c := b.e6)
  | ((with_reducible refine gate_dst (N := 6) rfl ?_); (try (refine gate_guard (by rfl) ?_; dsimp only)); apply kindE 6 l)
  | ((with_reducible refine gate_dst (N := 11) rfl ?_); apply takeE 11 l; intro C y i; replace l := Aside0.mk y; clear y; have z := Z.out; replace o := o.f1 i (by omega); replace b := b.b1 i (by omega); clear z; replace Z := Z.k i; clear i; clear c; have c := b.e6)
  | ((with_reducible refine gate_dst (N := 4) rfl ?_); apply boxE 4 #[.int .i64 0, .string ⟨#[]⟩, .int .i64 0, .int .i64 0, .slice none 0 0, .slice none 0 0] 36; intro A F e i s; replace o := o.f0 i; replace l := l.p0 i; replace b := b.b0 i; replace Z := Z.a s; clear s i; clear c; have c := b.e6; have j := e.e6; have m : A ≠ p ∧ p ≠ A := (by have z := Z.out; omega))
  | ((with_reducible refine gate_dst (N := 15) rfl ?_); (try (refine gate_guard (by rfl) ?_; dsimp only)); have I := e.s6 (.int .i64 11) (.string ⟨#[]⟩) (.int .i64 t.f2) (.int .i64 0) (.slice none 0 0) (.slice none 0 0); clear e; obtain ⟨W, D, i, e⟩ := I; rw [D]; clear D; have z := Z.out; replace o := o.f1 i (by omega); replace l := l.p1 i (by omega); replace b := b.b1 i (by omega); clear z; replace Z := Z.k i; clear i; clear c j m; have c := b.e6; have j := e.e6; have m : A ≠ p ∧ p ≠ A := (by have z := Z.out; omega); apply goE 15 Try.func48 (ihx _ _ _ _ _ _ hx l.out); rintro K Y U; rcases r1 with x_ | ⟨x, l2⟩; (obtain ⟨rfl, i⟩ := U; obtain rfl : r = Except.error x_ := (Option.some.inj H.out).symm; exact Or.inr ⟨_, rfl, rfl, rfl, o.out.then_ i (fun k hk => .inl hk)⟩); obtain ⟨v_, rfl, ⟨nva, kva, rfl, G⟩, y, i⟩ := U; refine Or.inl ⟨_, rfl, ?_⟩; obtain ⟨Ana, cna, rfl, _⟩ := Kd.Q_slice G.1; obtain ⟨Aka, cka, rfl, _⟩ := Kd.Q_slice G.2; replace l := Aside0.mk y; have z := Z.out; replace o := o.f1 i (by omega); replace b := b.b1 i (by omega); replace e := e.b1 i (by omega); clear z; replace Z := Z.k i; have M := Aside0.mk (G.mono (T := fun k => (W.heap.size ≤ k ∧ k < Y.heap.size)) (fun k h1 h2 => ⟨h1, h2⟩)); clear y G i; clear c j m; have c := b.e6; have j := e.e6; have m : A ≠ p ∧ p ≠ A := (by have z := Z.out; omega); obtain rfl : r = Except.ok ((SP.Nd.mk 11 ⟨#[]⟩ t.f2 0 [] [x], true), l2) := (Option.some.inj H.out).symm)
  | ((with_reducible refine gate_dst (N := 16) rfl ?_); apply litE 16 #[.int .i64 x.kind, .string x.text, .int .i64 x.place, .int .i64 x.n, .slice Ana x.names.length cna, .slice Aka x.kids.length cka] 36 1; intro bL L J i s; replace o := o.f0 i; replace l := l.p0 i; replace b := b.b0 i; replace e := e.b0 i; replace M := M.n0 i; replace Z := Z.a s; clear s i; clear c j m; have c := b.e6; have j := e.e6; have O := J.c6; have m : A ≠ p ∧ p ≠ A ∧ A ≠ bL ∧ bL ≠ A ∧ p ≠ bL ∧ bL ≠ p := (by have z := Z.out; omega); have V := Aside0.mk (row_one (S := fun k => (w.heap.size ≤ k ∧ k ≠ p ∧ k ≠ A)) J.out M.out (fun k (hk : (W.heap.size ≤ k ∧ k < Y.heap.size)) => (show ((w.heap.size ≤ k ∧ k ≠ p ∧ k ≠ A)) ∧ k ≠ bL from by have z := Z.out; omega)) (show (w.heap.size ≤ bL ∧ bL ≠ p ∧ bL ≠ A) from by have z := Z.out; omega)); clear J M; clear O))
 have I := e.st 5 (.slice (some ⟨bL, 0, none⟩) 1 1) (cs' := #[.int .i64 11, .string ⟨#[]⟩, .int .i64 t.f2, .int .i64 0, .slice none 0 0, .slice (some ⟨bL, 0, none⟩) 1 1]) rfl
 clear e
 obtain ⟨P, D, i, e⟩ := I
 rw [D]
 clear D
 have z := Z.out
 replace o := o.f1 i (by omega)
 replace l := l.p1 i (by omega)
 replace b := b.b1 i (by omega)
 replace V := V.q1 i (fun k hk => by omega)
 clear z
 replace Z := Z.k i
 clear i
 clear c j m
 have c := b.e6
 have j := e.c6
 have m : p ≠ A ∧ A ≠ p := (by have z := Z.out; omega)
 have I := b.s6 (.int .i64 11) (.string ⟨#[]⟩) (.int .i64 t.f2) (.int .i64 0) (.slice none 0 0) (.slice (some ⟨bL, 0, none⟩) 1 1)
 clear b
 obtain ⟨Q, D, i, b⟩ := I
 rw [D]
 clear D
 have z := Z.out
 replace o := o.f1 i (by omega)
 replace l := l.p1 i (by omega)
 replace e := e.b1 i (by omega)
 replace V := V.q1 i (fun k hk => by omega)
 clear z
 replace Z := Z.k i
 clear i
 clear c j m
 have c := b.e6
 have j := e.c6
 have m : p ≠ A ∧ A ≠ p := (by have z := Z.out; omega)
 refine bodyPost_ret (results_ct rfl _ _ p 36 _ (0, 0) _ rfl b.out hu36 rfl rfl) rfl ?_
 exact ⟨_, rfl, ⟨_, rfl, _, _, rfl, Kd.Q_nil _ _ _ _ _, Q_mono' V.out (fun k h1 _ => h1.1)⟩, l.out, o.out⟩
theorem tree_statement.step {k : Nat} (ihx : CN 48 SP.expr k) : CB 33 SP.stmt (k + 1) := by
 intro B pb d l r w hr h
 unfold SP.stmt at hr
 cases l with
 | nil =>
  exfalso
  rw [if_neg (show ¬ SP.hk [] = 13 by decide)] at hr
  cases k with
  | zero => simp [SP.expr, SP.bind] at hr
  | succ k => simp [SP.expr, SP.top, SP.bind] at hr
 | cons t l =>
  by_cases h13 : t.f0 = 13
  ·rw [if_pos (show SP.hk (t :: l) = 13 from h13)] at hr
   simp only [SP.top] at hr
   cases hx : SP.expr k d (SP.tl (t :: l)) with
   | none => rw [hx] at hr; simp [SP.bind] at hr
   | some r1 =>
    rw [hx] at hr
    exact tree_statement.caret ihx w h (by simp [h13]) hx ⟨hr⟩
  ·rw [if_neg (show ¬ SP.hk (t :: l) = 13 from h13)] at hr
   cases hx : SP.expr k d (t :: l) with
   | none => rw [hx] at hr; simp [SP.bind] at hr
   | some r1 =>
    rw [hx] at hr
    exact tree_statement.plain ihx w h (by simp [h13]) hx ⟨hr⟩
end Go.Proofs.Ytpodpmjlkbbkoaa.P
