import Derived.ScopeJumps
import Derived.Test.YtpodpmjlkbbkoaaQCTI
import Derived.Test.YtpodpmjlkbbkoaaQCTA
set_option linter.all false
set_option maxHeartbeats 16000000
set_option maxRecDepth 100000
namespace Go.Proofs.Ytpodpmjlkbbkoaa.P
open Go.RowKit Go.Proofs.YtpodpmjlkbbkoaaW.PrintWords Go.Proofs.YtpodpmjlkbbkoaaW.PrintLast Go.Proofs.YtpodpmjlkbbkoaaW.PrintMore
variable [Low]
attribute [local go_sem] field64_1 field64_2
omit [Low] in
theorem str_push {W : World} {S : Nat → Prop} {v : Value} {ns : List ByteArray} {b : Nat} {s : ByteArray} (ty : TypeId) (m : Nat) (hm : ∀ k, v.ownBlock = some k → k < m) (hq : Kd.string.Q 9 W 0 S v ns) (hfresh : ∀ k, W.heap.size ≤ k → S k) (hSb : S b)
  (hb : W.heap[b]? = some (.cells #[.string s] 9 (0, 0))) (hl : ns.length < 1099511627776) :
  ∃ A1 c1 w1 q, (Builtin.append_ #[22, 22] ty #[v, .slice (some ⟨b, 0, none⟩) 1 1]).run Try.prog W = .ok (.slice A1 (ns.length + 1) c1) w1 ∧ Kd.string.Q 9 w1 0 S (.slice A1 (ns.length + 1) c1) (ns ++ [s]) ∧ Fr (fun k => k = q) W w1 ∧ (S q ∧ (q < m ∨ q = b) ∧ q < W.heap.size) := by
 obtain ⟨v1, w1, hr, h1, h2, h3⟩ := Q_run_at Kd.string 22 ty 9 _ 16 Try.underlying22 info9 rfl (by decide) (by decide) (okp := fun _ => False) (p := s) (cs := [.string s]) hq rfl (fun k hk => hk.elim) hfresh hb (by omega)
 obtain ⟨A1, c1, rfl, hle⟩ := Kd.Q_slice h1
 have hlen : (ns ++ [s]).length = ns.length + 1 := by simp
 rw [hlen] at hr h1
 have hbl := blk_lt hb
 obtain ⟨q, hq1, hq2, hq3, hq4⟩ : ∃ q, (∀ k, v.ownBlock = some k → k = q) ∧ S q ∧ (q < m ∨ q = b) ∧ q < W.heap.size := by
  cases hv : v.ownBlock with
  | none => exact ⟨b, fun k hk => (by cases hk), hSb, .inr rfl, hbl⟩
  | some k => exact ⟨k, fun j hj => (Option.some.inj hj).symm, hq.1 k hv, .inl (hm k hv), Kd.Q_lt hq k hv⟩
 exact ⟨A1, c1, w1, q, hr, h1, h2.mono hq1, hq2, hq3, hq4⟩
omit [Low] in
theorem least_ {p : Nat → Prop} (h : ∃ n, p n) : ∃ n, p n ∧ ∀ m, p m → n ≤ m := by
 obtain ⟨n, hn⟩ := h
 induction n using Nat.strongRecOn with
 | _ n ih =>
  by_cases hm : ∃ m, m < n ∧ p m
  ·obtain ⟨m, h1, h2⟩ := hm
   exact ih m h1 h2
  ·exact ⟨n, hn, fun m h => Nat.le_of_not_lt fun hlt => hm ⟨m, hlt, h⟩⟩
omit [Low] in
theorem wp_scope_ghost {P : Program} {a : Act} {w : World} {Q : Exit → Act → World → Prop} {c R0 : Code} (l0 : Nat) (J : Nat → Act → World → Prop) (h0 : findLabel c l0 = some (.seq .skip R0))
  (first : (∀ n a w, J n a w → R0.wp P (Exit.jump l0 (fun a w => ∃ n, J n a w) Q) a w) → c.wp P (Exit.jump l0 (fun a w => ∃ n, J n a w) Q) a w)
  (pass0 : ∀ n a w, J n a w → R0.wp P (Exit.jump l0 (fun a' w' => ∃ m, m < n ∧ J m a' w') Q) a w) : (Code.scope c).wp P Q a w := by
 classical
 refine wp_scope_jumps l0 (fun a w => ∃ n, J n a w) (fun a w => if h : ∃ n, J n a w then Classical.choose (least_ h) else 0) h0 (first (fun n a w h => Code.wp_mono (fun e a' w' hq => ?_) (pass0 n a w h))) (fun a w h => wp_seq (wp_skip (Code.wp_mono (fun e a' w' hq => ?_) (pass0 _ a w (Classical.choose_spec (least_ h)).1))))
 ·cases e with
  | goto l => exact ⟨hq.1, hq.2.imp fun m hm => hm.2⟩
  | _ => exact hq
 ·cases e with
  | goto l =>
   obtain ⟨h1, m, hm, hJ⟩ := hq
   refine ⟨h1, ⟨m, hJ⟩, ?_⟩
   rw [dif_pos h, dif_pos (⟨m, hJ⟩ : ∃ n, J n a' w')]
   exact Nat.lt_of_le_of_lt ((Classical.choose_spec (least_ (⟨m, hJ⟩ : ∃ n, J n a' w'))).2 m hJ) hm
  | _ => exact hq
def NB (g : Nat) (S T : Nat → Prop) (a b c nn : Value) (ns : List ByteArray) (ks : List SP.Nd) (w : World) : Prop := ∃ An cn Ak ck, w.heap[g]? = some (.cells #[a, b, c, nn, .slice An ns.length cn, .slice Ak ks.length ck] 36 (0, 0)) ∧ Kd.string.Q 9 w 0 S (.slice An ns.length cn) ns ∧ kNd.Q 36 w 0 T (.slice Ak ks.length ck) ks
omit [Low] in
theorem NB.fr {g : Nat} {S T X : Nat → Prop} {a b c nn : Value} {ns : List ByteArray} {ks : List SP.Nd} {w w' : World} (h : NB g S T a b c nn ns ks w) (hf : Fr X w w') (hg : ¬ X g) (hS : ∀ k, S k → ¬ X k) (hT : ∀ k, T k → ¬ X k) : NB g S T a b c nn ns ks w' := by
 obtain ⟨An, cn, Ak, ck, h1, h2, h3⟩ := h
 exact ⟨An, cn, Ak, ck, hf.blk h1 hg, hf.Q h2 hS, hf.Q h3 hT⟩
omit [Low] in
theorem NB.mono {g : Nat} {S T S2 T2 : Nat → Prop} {a b c nn : Value} {ns : List ByteArray} {ks : List SP.Nd} {w : World} (h : NB g S T a b c nn ns ks w) (hS : ∀ k, S k → k < w.heap.size → S2 k) (hT : ∀ k, T k → k < w.heap.size → T2 k) : NB g S2 T2 a b c nn ns ks w := by
 obtain ⟨An, cn, Ak, ck, h1, h2, h3⟩ := h
 exact ⟨An, cn, Ak, ck, h1, Q_mono' h2 hS, Q_mono' h3 hT⟩
def NodeBox (g : Nat) (w : World) : Prop := ∃ a0 a1 a2 a3 a4 a5, w.heap[g]? = some (.cells #[a0, a1, a2, a3, a4, a5] 36 (0, 0))
def AnsN {α : Type} (r : Except (Int × Int) (α × List S28)) (B pb g : Nat) (d : Int) (X : Nat → Prop) (w : World) (ok : α → World → Prop) (e : Ending) (w' : World) : Prop := match r with
 | .error x => e = .panicked (stopOf x.1 x.2) ∧ Fr X w w' ∧ NodeBox g w'
 | .ok x => e = .returned (.tuple #[]) ∧ ok x.1 w' ∧ PS B w' pb x.2 d ∧ Fr X w w'
def frB (pb gn : Nat) (e : Int) (u : Nat → Value) : Act := { tmps := List.toArray (.pointer (some ⟨pb, 0, none⟩) :: .pointer (some ⟨gn, 0, none⟩) :: .int .i64 e :: u 3 :: u 4 :: u 5 :: u 6 :: u 7 :: u 8 :: u 9 :: u 10 :: u 11 :: u 12 :: u 13 :: u 14 :: u 15 :: u 16 :: u 17 :: u 18 :: u 19 :: u 20 :: u 21 :: u 22 :: u 23 :: u 24 :: u 25 :: u 26 :: u 27 :: u 28 :: u 29 :: u 30 :: u 31 :: u 32 :: u 33 :: u 34 :: u 35 :: u 36 :: u 37 :: u 38 :: u 39 :: u 40 :: u 41 :: u 42 :: u 43 :: u 44 :: u 45 :: u 46 :: u 47 :: u 48 :: u 49 :: u 50 :: u 51 :: u 52 :: u 53 :: u 54 :: u 55 :: u 56 :: u 57 :: u 58 :: u 59 :: u 60 :: u 61 :: u 62 :: []), defers := [] }
omit [Low] in
omit [Low] in
theorem stmt_nil (k : Nat) (d : Int) : SP.stmt k d [] = none := by
 cases k with
 | zero => rfl
 | succ k =>
  unfold SP.stmt
  rw [if_neg (show ¬ SP.hk [] = 13 by decide)]
  cases k with
  | zero => simp [SP.expr, SP.bind]
  | succ k => simp [SP.expr, SP.top, SP.bind]
omit [Low] in
theorem hk_nil {e : Int} (h : 0 ≤ e) : ¬ SP.hk [] = e := by show ¬ (-1 : Int) = e; omega
omit [Low] in
theorem jump_of {pb gn : Nat} {e : Int} {a : Act} {p : List S28 → List SP.Nd → Prop} (h : ∃ u, a = frB pb gn e u) (h2 : ∃ l' ks, p l' ks) : ∃ u l' ks, a = frB pb gn e u ∧ p l' ks := by
 obtain ⟨u, hu⟩ := h
 obtain ⟨l', ks, hp⟩ := h2
 exact ⟨u, l', ks, hu, hp⟩
omit [Low] in
theorem fr_any {pb gn : Nat} {e : Int} {a : Act} (h : a = frB pb gn e (fun i => a.tmps.getD i undef)) : ∃ u, a = frB pb gn e u := ⟨_, h⟩
theorem tree_body.calls {k : Nat} (ihst : ∀ j, j ≤ k → CB 33 SP.stmt j) (hk : k ≤ 1073741824) {B pb gn : Nat} {d e : Int} {l : List S28} {ns ns2 : List ByteArray} {S : Nat → Prop} {r : Except (Int × Int) ((List ByteArray × List SP.Nd) × List S28)} (w : World) (va vb vc vn : Value) (An : Option Addr) (cn : Nat) (h : PS B w pb l d) (hgB : gn < Low.lo ∨ B ≤ gn) (hg : w.heap[gn]? = some (.cells #[va, vb, vc, vn, .slice An ns.length cn, .slice none 0 0] 36 (0, 0))) (hn : Kd.string.Q 9 w 0 S (.slice An ns.length cn) ns) (hS : ∀ k, S k → B ≤ k ∧ k ≠ gn) (hl : ns.length + l.length ≤ 1073741824) (he0 : 0 ≤ e)
  {rt : Except (Int × Int) (List ByteArray × List S28)} (ht : SP.temps ns l = some rt) (hns : ∀ a l2, rt = .ok (a, l2) → ns2 = a) (hr : SP.bind (some rt) (fun ns2 l2 => SP.bind (SP.stmts k d e l2 []) (fun ks l3 => SP.ret (ns2, ks) l3)) = some r) :
  Calls Try.prog 20 #[.pointer (some ⟨pb, 0, none⟩), .pointer (some ⟨gn, 0, none⟩), .int .i64 e] w (AnsN r B pb gn d (fun k => k = pb ∨ k = gn ∨ S k) w (fun nk w' => NB gn (fun k => (S k ∨ w.heap.size ≤ k) ∧ k ≠ gn) (fun k => w.heap.size ≤ k ∧ k ≠ gn) va vb vc vn nk.1 nk.2 w')) := by
 have hu36 := Try.underlying36
 have Z0 := Aside0.mk (show pb < B ∧ B ≤ w.heap.size ∧ ((gn < Low.lo ∨ B ≤ gn) ∧ Low.lo ≤ pb) ∧ gn < w.heap.size from ⟨h.1, h.2.1, ⟨hgB, h.lo⟩, blk_lt hg⟩)
 replace hS := Aside0.mk hS
 go_enter Try.func20, Try.ntmps20
 go_wp2
 refine wp_scope_ghost 0 (fun n a w' => ∃ (u : Nat → Value) (l' : List S28) (ks : List SP.Nd), a = frB pb gn e u ∧ Aside0 (SP.bind (SP.stmts n d e l' ks) (fun ks l3 => SP.ret (ns2, ks) l3) = some r) ∧ Aside0 (PS B w' pb l' d) ∧ Aside0 (∃ m1, w.heap.size ≤ m1 ∧ m1 ≤ w'.heap.size ∧ NB gn (fun k => ((S k ∨ w.heap.size ≤ k) ∧ B ≤ k ∧ k ≠ gn ∧ k < m1)) (fun k => (m1 ≤ k ∧ k ≠ gn)) va vb vc vn ns2 ks w') ∧ Aside0 (Fr (fun k => k = pb ∨ k = gn ∨ S k) w w') ∧ Aside0 (ks.length + n ≤ k)) rfl ?_ ?_
 ·intro hround
  cases l with
  | nil =>
   unfold SP.temps at ht
   rw [if_neg (show ¬ SP.hk [] = 12 by decide)] at ht
   simp only [SP.ret, Option.some.injEq] at ht
   subst ht
   exfalso
   simp only [SP.bind] at hr
   cases k with
   | zero => simp [SP.stmts] at hr
   | succ k =>
    unfold SP.stmts at hr
    rw [if_neg (hk_nil he0), stmt_nil] at hr
    simp [SP.bind] at hr
  | cons t l1 =>
  by_cases h12 : t.f0 = 12
  ·have c12 : (t.f0 == 12) = true := by simp [h12]
   have htl := Aside0.mk (show SP.tl (t :: l1) = l1 by simp [SP.tl, h12])
   unfold SP.temps at ht
   rw [if_pos (show SP.hk (t :: l1) = 12 from h12), htl.out] at ht
   obtain ⟨⟨nsx, lr⟩, hnw0⟩ : ∃ x, SP.namesWhile l1 ns = x := ⟨_, rfl⟩
   rw [hnw0] at ht
   have hnw := Aside0.mk hnw0
   simp only at ht
   obtain ⟨r2, hr20⟩ := bind_none ht
   rw [hr20] at ht
   have hbad : ∀ y, r2 = Except.error y → r = Except.error y := fun y ey => by
    subst ey
    simp only [SP.bind, Option.some.injEq] at ht
    subst ht
    simp only [SP.bind, Option.some.injEq] at hr
    exact hr.symm
   have hgood : ∀ t_ l4, r2 = Except.ok (t_, l4) → ns2 = nsx ∧ SP.bind (SP.stmts k d e l4 []) (fun ks l3 => SP.ret (ns2, ks) l3) = some r := fun t_ l4 ey => by
    subst ey
    simp only [SP.bind, SP.ret, Option.some.injEq] at ht
    subst ht
    have h3 := hns nsx l4 rfl
    subst h3
    exact ⟨rfl, hr⟩
   have hr2 := Aside0.mk hr20
   replace hl := Aside0.mk hl
   clear h12 ht hr hnw0 hr20 hns
   have G := Aside0.mk (Fr.refl (fun k => k = pb ∨ k = gn ∨ S k) w)
   have o := Aside0.mk h
   have b := Aside0.mk hg
   have J := Aside0.mk (Q_mono' (T := fun k => (S k ∧ B ≤ k ∧ k ≠ gn ∧ k < w.heap.size)) hn (fun k h1 h2 => ⟨h1, (hS.out k h1).1, (hS.out k h1).2, h2⟩))
   have Z := Aside0.mk (And.intro (Nat.le_refl w.heap.size) Z0.out)
   clear h hg hn
   have p := b.c6
   go_wp2_with (first
    | ((with_reducible refine gate_dst (N := 9) rfl ?_); (try (refine gate_guard (by rfl) ?_; dsimp only)); apply kindE 9 o)
    | ((with_reducible refine gate_dst (N := 12) rfl ?_); apply takeE 12 o; intro d9 s c; rw [htl.out] at s; replace o := Aside0.mk s; clear s; have I := Z.out; replace G := G.f1 c (by omega); replace b := b.b1 c (by omega); replace J := J.q1 c (fun k hk => by omega); clear I; replace Z := Z.k c; clear c; clear p; have p := b.c6))
   simp only [Act.put, List.setIfInBounds_toArray, List.set_cons_zero, List.set_cons_succ]
   go_loopg [] l1.length (fun kq w' => ∃ (l' : List S28) (ns' : List ByteArray) (AN : Option Addr) (cN : Nat), kq = l'.length ∧ Aside0 (SP.namesWhile l' ns' = (nsx, lr)) ∧ Aside0 (PS B w' pb l' d) ∧ Aside0 (w'.heap[gn]? = some (.cells #[va, vb, vc, vn, .slice AN ns'.length cN, .slice none 0 0] 36 (0, 0))) ∧ Aside0 (Kd.string.Q 9 w' 0 (fun k => ((S k ∨ w.heap.size ≤ k) ∧ B ≤ k ∧ k ≠ gn)) (.slice AN ns'.length cN) ns') ∧ Aside0 (Fr (fun k => k = pb ∨ k = gn ∨ S k) w w') ∧ Aside0 (ns'.length + l'.length ≤ 1073741824))
   case atStart => exact ⟨l1, ns, _, _, rfl, hnw, o, b, ⟨Q_mono' J.out (fun k h1 _ => ⟨.inl h1.1, h1.2.1, h1.2.2.1⟩)⟩, G, ⟨by have := hl.out; simp only [List.length_cons] at this; omega⟩⟩
   case round =>
    clear o b J G hnw htl
    obtain ⟨l', ns', AN, cN, rfl, hnw, o, b, J, G, HL⟩ := hrel
    have Z := Aside0.mk (And.intro G.out.size (And.intro (blk_lt b.out) Z0.out))
    cases l' with
    | nil =>
     have h2 := hnw.out
     simp only [SP.namesWhile, Prod.mk.injEq] at h2
     obtain ⟨rfl, rfl⟩ := h2
     exact absurd hr2.out (by simp [SP.need, SP.top])
    | cons t2 l3 =>
    by_cases h1 : t2.f0 = 1
    ·have c1 : (t2.f0 == 1) = true := by simp [h1]
     have htl2 := Aside0.mk (show SP.tl (t2 :: l3) = l3 by simp [SP.tl, h1])
     have h2 := hnw.out
     simp only [SP.namesWhile, h1, if_true] at h2
     replace hnw := Aside0.mk h2
     clear h2 h1
     replace J := Aside0.mk (Q_mono' (T := fun k => (((S k ∨ w.heap.size ≤ k) ∧ B ≤ k ∧ k ≠ gn) ∧ k < wr.heap.size)) J.out (fun k a7 c2 => ⟨a7, c2⟩))
     have HM := Aside0.mk (fun k hk => Kd.Q_lt J.out k hk)
     have p := b.c6
     go_wp2_with (first
      | ((with_reducible refine gate_dst (N := 14) rfl ?_); (try (refine gate_guard (by rfl) ?_; dsimp only)); apply kindE 14 o))
     refine start_ (n := 13) (S := fun w' => (w'.cell? ⟨gn, 4, none⟩ = some (.slice AN ns'.length cN))) (ds := [12]) #[false, false, false, false, false, false, false, false, false, false, false, false, false] (by kernel_rfl) rfl rfl (show ((World.drew wr).cell? ⟨gn, 4, none⟩ = some (.slice AN ns'.length cN)) from (blk_cell b.out 4).trans rfl) (fun M => ?_)
     obtain ⟨b2, v⟩ : ∃ W_, W_ = World.drew wr := ⟨_, rfl⟩
     rw [← v] at M ⊢
     have c : Fr (fun _ => False) wr b2 := (by rw [v]; exact (Fr.refl _ _).drew)
     replace G := G.f0 c
     replace o := o.p0 c
     replace b := b.b0 c
     replace J := J.q0 c
     replace Z := Z.k c
     clear c v
     clear p
     apply puA 0 16
     apply puA 1 17
     apply puA 2 18
     apply puA 3 19
     apply puA 5 21
     apply tkA 4 20 M
     apply oN 6 (some 22); intro K hK
     refine goesR_ Try.func23 (by kernel_rfl) rfl #[.pointer (some ⟨pb, 0, none⟩)] (by rfl) rfl rfl (by (try simp only [List.map_toArray, List.map_cons, List.map_nil]); first | done | rfl) ?_
     refine (tree_take.calls _ o.out).mono ?_
     rintro e_ b6 ⟨rfl, s, c⟩
     refine Or.inl ⟨_, rfl, ?_⟩
     rw [htl2.out] at s
     replace o := Aside0.mk s
     have I := Z.out
     replace G := G.f1 c (by omega)
     replace b := b.b1 c (by omega)
     replace J := J.q1 c (fun k hk => by omega)
     clear I
     replace Z := Z.k c
     clear s c
     refine hK.out _ _ (show (b6.cell? ⟨gn, 4, none⟩ = some (.slice AN ns'.length cN)) from (blk_cell b.out 4).trans rfl) (fun M => ?_)
     clear hK K
     apply nmA 22
     apply puA 7 23
     apply oN 8 (some 24); intro K hK
     refine newR_ (cs := #[.string t2.f1]) (t := 9) (by rfl) rfl ?hr ?_
     (case hr => first | (go_simp; done) | (go_simp; rfl))
     intro bS a2 b3 X P
     have c : Fr (fun _ => False) b6 b3 := Fr.of_below P
     replace G := G.f0 c
     replace o := o.p0 c
     replace b := b.b0 c
     replace J := J.q0 c
     replace Z := Z.k c
     replace Z := Aside0.mk (And.intro (Nat.le_of_eq a2.symm) Z.out)
     replace Z := Aside0.mk (And.intro (Nat.le_of_eq a2) Z.out)
     replace Z := Aside0.mk (And.intro (blk_lt X) Z.out)
     have b7 := Aside0.mk X
     clear a2 X P c
     refine hK.out _ _ (show (b3.cell? ⟨gn, 4, none⟩ = some (.slice AN ns'.length cN)) from (blk_cell b.out 4).trans rfl) (fun M => ?_)
     clear hK K
     apply nmA 24
     apply oN 9 (some 25); intro K hK
     obtain ⟨AP, d2, d3, d8, R, a6, c, a5⟩ := str_push (W := b3) 22 wr.heap.size HM.out (Q_mono' (T := fun k => ((S k ∨ w.heap.size ≤ k) ∧ B ≤ k ∧ k ≠ gn)) J.out (fun k a7 _ => a7.1)) (fun k hk => (show ((S k ∨ w.heap.size ≤ k) ∧ B ≤ k ∧ k ≠ gn) from by have I := Z.out; omega)) (show ((S bS ∨ w.heap.size ≤ bS) ∧ B ≤ bS ∧ bS ≠ gn) from by have I := Z.out; omega) b7.out (by have := HL.out; simp only [List.length_cons] at this; omega)
     refine appendR_ (.tmp 20) (.tmp 24) (by rfl) rfl rfl rfl rfl R ?_
     have d4 := a5.1.1
     replace Z := Aside0.mk (And.intro (a5) Z.out)
     clear a5 R b7 J HM
     have I := Z.out
     replace G := G.f1 c (d4.elim (fun h => .inl (.inr (.inr h))) .inr)
     replace o := o.p1 c (by omega)
     replace b := b.b1 c (by omega)
     clear I
     replace Z := Z.k c
     clear c d4
     have J := Aside0.mk a6
     clear a6
     refine hK.out _ _ (show (d3.cell? ⟨gn, 4, none⟩ = some (.slice AN ns'.length cN)) from (blk_cell b.out 4).trans rfl) (fun M => ?_)
     clear hK K
     apply nmA 25
     apply puA 10 26
     apply puA 11 27
     apply la 12 none; intro K hK
     have V := b.z
     have b4 := b.c6
     have a8 := b.st 4 (.slice AP (ns'.length + 1) d2) (cs' := #[va, vb, vc, vn, .slice AP (ns'.length + 1) d2, .slice none 0 0]) rfl
     clear b
     obtain ⟨d5, v, c, b⟩ := a8
     refine skip_ (w1 := d5) (by rfl) rfl ?_ ?_
     ·rw [← v]
      clear v
      go_simp
      (try rfl)
     have I := Z.out
     replace G := G.f1 c (by omega)
     replace o := o.p1 c (by omega)
     replace J := J.q1 c (fun k hk => by omega)
     clear I
     replace Z := Z.k c
     clear V b4 v c
     refine hK.out _ _ ?_
     clear hK K
     refine done_ (by kernel_rfl) ?_
     (try go_wp2)
     go_roundg l3.length
     case measure => simp
     case rel =>
      have e_ : (ns' ++ [t2.f1]).length = ns'.length + 1 := by simp
      exact ⟨l3, ns' ++ [t2.f1], _, _, rfl, hnw, o, by rw [e_]; exact b, by rw [e_]; exact J, G, ⟨by rw [e_]; have := HL.out; simp only [List.length_cons] at this; omega⟩⟩
    ·have c1 : (t2.f0 == 1) = false := by simp [h1]
     have h2 := hnw.out
     simp only [SP.namesWhile, h1, if_false, Prod.mk.injEq] at h2
     obtain ⟨rfl, rfl⟩ := h2
     clear hnw h1
     have p := b.c6
     go_wp2_with (first
      | ((with_reducible refine gate_dst (N := 14) rfl ?_); (try (refine gate_guard (by rfl) ?_; dsimp only)); apply kindE 14 o)
      | ((with_reducible refine gate_dst (N := 29) rfl ?_); (try (refine gate_guard (by rfl) ?_; dsimp only)); apply goE 29 Try.func22 (tree_need.calls _ 12 hr2.out o.out); rintro e_ b2 b5; rcases r2 with x_ | ⟨t_, l4⟩; (obtain ⟨rfl, c⟩ := b5; obtain rfl : r = Except.error x_ := hbad x_ rfl; exact Or.inr ⟨_, rfl, rfl, rfl, G.out.then_ c (fun k hk => .inl (.inl hk)), _, _, _, _, _, _, (b.b1 c (by have I := Z.out; omega)).out⟩); obtain ⟨v_, rfl, hv_, s, c⟩ := b5; subst hv_; refine Or.inl ⟨_, rfl, ?_⟩; replace o := Aside0.mk s; have I := Z.out; replace G := G.f1 c (by omega); replace b := b.b1 c (by omega); replace J := J.q1 c (fun k hk => by omega); clear I; replace Z := Z.k c; clear s c; clear p; have p := b.c6))
     obtain ⟨hns2, hrr⟩ := hgood t_ l4 rfl
     rename_i K hK
     exact wp_label (hK _ _ (hround k _ _ (jump_of (fr_any rfl) ⟨l4, [], ⟨hrr⟩, o, ⟨b2.heap.size, G.out.size, Nat.le_refl _, _, _, _, _, by rw [hns2]; exact b.out, by rw [hns2]; exact Q_mono' J.out (fun k h1 h2 => ⟨h1.1, h1.2.1, h1.2.2, h2⟩), Kd.Q_nil _ _ _ _ _⟩, G, ⟨by simp⟩⟩)))
  ·have c12 : (t.f0 == 12) = false := by simp [h12]
   unfold SP.temps at ht
   rw [if_neg (show ¬ SP.hk (t :: l1) = 12 from h12)] at ht
   simp only [SP.ret, Option.some.injEq] at ht
   subst ht
   obtain rfl : ns = ns2 := (hns ns _ rfl).symm
   simp only [SP.bind] at hr
   change SP.bind (SP.stmts k d e (t :: l1) []) (fun ks l3 => SP.ret (ns, ks) l3) = some r at hr
   clear h12
   have G := Aside0.mk (Fr.refl (fun k => k = pb ∨ k = gn ∨ S k) w)
   have o := Aside0.mk h
   have b := Aside0.mk hg
   have J := Aside0.mk (Q_mono' (T := fun k => (S k ∧ B ≤ k ∧ k ≠ gn ∧ k < w.heap.size)) hn (fun k h1 h2 => ⟨h1, (hS.out k h1).1, (hS.out k h1).2, h2⟩))
   have Z := Aside0.mk (And.intro (Nat.le_refl w.heap.size) Z0.out)
   clear h hg hn
   have p := b.c6
   go_wp2_with (first
    | ((with_reducible refine gate_dst (N := 9) rfl ?_); (try (refine gate_guard (by rfl) ?_; dsimp only)); apply kindE 9 o))
   rename_i K hK
   exact wp_label (hK _ _ (hround k _ _ (jump_of (fr_any rfl) ⟨t :: l1, [], ⟨hr⟩, o, ⟨w.heap.size, Nat.le_refl _, Nat.le_refl _, _, _, _, _, b.out, Q_mono' J.out (fun k h1 _ => ⟨.inl h1.1, h1.2.1, h1.2.2.1, h1.2.2.2⟩), Kd.Q_nil _ _ _ _ _⟩, G, ⟨by simp⟩⟩)))
 ·rintro n a' w' ⟨u, l', ks, rfl, H, o, HN, G, HL⟩
  clear h hg hn hr ht hl hns
  obtain ⟨m1, hm1, hm2, An, cn, AK, cK, P, b8, a6⟩ := HN.out
  have b := Aside0.mk P
  have J := Aside0.mk b8
  have Y := Aside0.mk a6
  have Z := Aside0.mk (And.intro G.out.size (And.intro hm2 (And.intro hm1 (And.intro (blk_lt P) Z0.out))))
  replace hm1 := Aside0.mk hm1
  clear HN P b8 a6 hm2
  unfold frB
  cases n with
  | zero => exact absurd H.out (by simp [SP.stmts, SP.bind])
  | succ k1 =>
  cases l' with
  | nil =>
   have H2 := H.out
   unfold SP.stmts at H2
   rw [if_neg (hk_nil he0), stmt_nil] at H2
   simp [SP.bind] at H2
  | cons t' l1 =>
  by_cases h9 : t'.f0 = e
  ·have c9 : (t'.f0 == e) = true := by simp [h9]
   have H2 := H.out
   simp only [SP.stmts, SP.hk, h9, if_true, SP.ret, SP.bind, Option.some.injEq] at H2
   subst H2
   clear H h9
   have p := b.c6
   go_wp2_with (first
    | ((with_reducible refine gate_dst (N := 31) rfl ?_); (try (refine gate_guard (by rfl) ?_; dsimp only)); apply kindE 31 o))
   show bodyPost _ _ _ Exit.ret _ _
   refine bodyPost_ret (results_none rfl _ _ _) rfl ?_
   exact ⟨rfl, ⟨_, _, _, _, b.out, Q_mono' J.out (fun k h1 _ => ⟨h1.1, h1.2.2.1⟩), Q_mono' Y.out (fun k h1 _ => ⟨Nat.le_trans hm1.out h1.1, h1.2⟩)⟩, o.out, G.out⟩
  ·have c9 : (t'.f0 == e) = false := by simp [h9]
   have H2 := H.out
   simp only [SP.stmts, SP.hk, h9, if_false, bind_assoc] at H2
   obtain ⟨r1, he⟩ := bind_none H2
   rw [he] at H2
   replace H := Aside0.mk H2
   replace he := Aside0.mk he
   clear H2 h9
   replace Y := Aside0.mk (Q_mono' (T := fun k => ((m1 ≤ k ∧ k ≠ gn) ∧ k < w'.heap.size)) Y.out (fun k a7 c2 => ⟨a7, c2⟩))
   have HM := Aside0.mk (fun k hk => Kd.Q_lt Y.out k hk)
   have p := b.c6
   go_wp2_with (first
    | ((with_reducible refine gate_dst (N := 31) rfl ?_); (try (refine gate_guard (by rfl) ?_; dsimp only)); apply kindE 31 o)
    | ((with_reducible refine gate_dst (N := 36) rfl ?_); (try (refine gate_guard (by rfl) ?_; dsimp only)); apply goE 36 Try.func33 (ihst _ (by have := HL.out; omega) _ _ _ _ _ _ he.out o.out); rintro e_ a3 b5; rcases r1 with x_ | ⟨x, l2⟩; (obtain ⟨rfl, c⟩ := b5; obtain rfl : r = Except.error x_ := (Option.some.inj H.out).symm; exact Or.inr ⟨_, rfl, rfl, rfl, G.out.then_ c (fun k hk => .inl (.inl hk)), _, _, _, _, _, _, (b.b1 c (by have I := Z.out; omega)).out⟩); obtain ⟨v_, rfl, ⟨u_, rfl, nva, kva, rfl, a9⟩, s, c⟩ := b5; refine Or.inl ⟨_, rfl, ?_⟩; obtain ⟨Ana, cna, rfl, _⟩ := Kd.Q_slice a9.1; obtain ⟨Aka, cka, rfl, _⟩ := Kd.Q_slice a9.2; replace o := Aside0.mk s; have I := Z.out; replace G := G.f1 c (by omega); replace b := b.b1 c (by omega); replace J := J.q1 c (fun k hk => by omega); replace Y := Y.q1 c (fun k hk => by omega); clear I; replace Z := Z.k c; have O := Aside0.mk (a9.mono (T := fun k => (w'.heap.size ≤ k ∧ k < a3.heap.size)) (fun k h1 h2 => ⟨h1, h2⟩)); clear s a9 c; clear p; have p := b.c6)
    | ((with_reducible refine gate_dst (N := 6) rfl ?_); apply boxE 6 #[.int .i64 0, .string ⟨#[]⟩, .int .i64 0, .int .i64 0, .slice none 0 0, .slice none 0 0] 36; intro U e0 m c d6; replace G := G.f0 c; replace o := o.p0 c; replace b := b.b0 c; replace J := J.q0 c; replace Y := Y.q0 c; replace O := O.n0 c; replace Z := Z.a d6; clear d6 c; clear p; have p := b.c6; have A := m.e6; have E : U ≠ gn ∧ gn ≠ U := (by have I := Z.out; omega)))
   have a8 := m.s6 (.int .i64 x.1.kind) (.string x.1.text) (.int .i64 x.1.place) (.int .i64 x.1.n) (.slice Ana x.1.names.length cna) (.slice Aka x.1.kids.length cka)
   clear m
   obtain ⟨F, v, c, m⟩ := a8
   rw [v]
   clear v
   have I := Z.out
   replace G := G.f1 c (by omega)
   replace o := o.p1 c (by omega)
   replace b := b.b1 c (by omega)
   replace J := J.q1 c (fun k hk => by omega)
   replace Y := Y.q1 c (fun k hk => by omega)
   replace O := O.n1 c (fun k hk => by omega)
   clear I
   replace Z := Z.k c
   clear c
   clear p A E
   have p := b.c6
   have A := m.e6
   have E : U ≠ gn ∧ gn ≠ U := (by have I := Z.out; omega)
   refine start_ (n := 13) (S := fun w' => (w'.cell? ⟨gn, 5, none⟩ = some (.slice AK ks.length cK)) ∧ (w'.cell? ⟨U, 0, none⟩ = some (.int .i64 x.1.kind)) ∧ (w'.cell? ⟨U, 1, none⟩ = some (.string x.1.text)) ∧ (w'.cell? ⟨U, 2, none⟩ = some (.int .i64 x.1.place)) ∧ (w'.cell? ⟨U, 3, none⟩ = some (.int .i64 x.1.n)) ∧ (w'.cell? ⟨U, 4, none⟩ = some (.slice Ana x.1.names.length cna)) ∧ (w'.cell? ⟨U, 5, none⟩ = some (.slice Aka x.1.kids.length cka))) (ds := [9, 12]) #[false, false, false, false, false, false, false, false, false, false, false, false, false] (by kernel_rfl) rfl rfl (show ((World.drew F).cell? ⟨gn, 5, none⟩ = some (.slice AK ks.length cK)) ∧ ((World.drew F).cell? ⟨U, 0, none⟩ = some (.int .i64 x.1.kind)) ∧ ((World.drew F).cell? ⟨U, 1, none⟩ = some (.string x.1.text)) ∧ ((World.drew F).cell? ⟨U, 2, none⟩ = some (.int .i64 x.1.place)) ∧ ((World.drew F).cell? ⟨U, 3, none⟩ = some (.int .i64 x.1.n)) ∧ ((World.drew F).cell? ⟨U, 4, none⟩ = some (.slice Ana x.1.names.length cna)) ∧ ((World.drew F).cell? ⟨U, 5, none⟩ = some (.slice Aka x.1.kids.length cka)) from ⟨(blk_cell b.out 5).trans rfl, (blk_cell m.out 0).trans rfl, (blk_cell m.out 1).trans rfl, (blk_cell m.out 2).trans rfl, (blk_cell m.out 3).trans rfl, (blk_cell m.out 4).trans rfl, (blk_cell m.out 5).trans rfl⟩) (fun M => ?_)
   obtain ⟨b9, v⟩ : ∃ W_, W_ = World.drew F := ⟨_, rfl⟩
   rw [← v] at M ⊢
   have c : Fr (fun _ => False) F b9 := (by rw [v]; exact (Fr.refl _ _).drew)
   replace G := G.f0 c
   replace o := o.p0 c
   replace b := b.b0 c
   replace J := J.q0 c
   replace Y := Y.q0 c
   replace O := O.n0 c
   replace m := m.b0 c
   replace Z := Z.k c
   clear c v
   clear p A E
   apply puA 0 39
   apply puA 1 40
   apply puA 2 41
   apply tkA 3 42 M
   apply tkA 4 43 M
   apply puA 5 44
   replace Y := Aside0.mk (Q_mono' (T := fun k => (m1 ≤ k ∧ k ≠ gn)) Y.out (fun k a7 _ => a7.1))
   apply oN 6 (some 45); intro K hK
   refine newR_ (cs := #[.int .i64 0, .string ⟨#[]⟩, .int .i64 0, .int .i64 0, .slice none 0 0, .slice none 0 0]) (t := 36) (by rfl) rfl ?hr ?_
   (case hr => first | (go_simp; done) | (go_simp; rfl))
   intro bV a2 L X P
   have c : Fr (fun _ => False) b9 L := Fr.of_below P
   replace G := G.f0 c
   replace o := o.p0 c
   replace b := b.b0 c
   replace J := J.q0 c
   replace Y := Y.q0 c
   replace O := O.n0 c
   replace m := m.b0 c
   replace Z := Z.k c
   replace Z := Aside0.mk (And.intro (Nat.le_of_eq a2.symm) Z.out)
   replace Z := Aside0.mk (And.intro (Nat.le_of_eq a2) Z.out)
   replace Z := Aside0.mk (And.intro (blk_lt X) Z.out)
   have c0 := Aside0.mk X
   clear a2 X P c
   refine hK.out _ _ (show (L.cell? ⟨gn, 5, none⟩ = some (.slice AK ks.length cK)) ∧ (L.cell? ⟨U, 0, none⟩ = some (.int .i64 x.1.kind)) ∧ (L.cell? ⟨U, 1, none⟩ = some (.string x.1.text)) ∧ (L.cell? ⟨U, 2, none⟩ = some (.int .i64 x.1.place)) ∧ (L.cell? ⟨U, 3, none⟩ = some (.int .i64 x.1.n)) ∧ (L.cell? ⟨U, 4, none⟩ = some (.slice Ana x.1.names.length cna)) ∧ (L.cell? ⟨U, 5, none⟩ = some (.slice Aka x.1.kids.length cka)) from ⟨(blk_cell b.out 5).trans rfl, (blk_cell m.out 0).trans rfl, (blk_cell m.out 1).trans rfl, (blk_cell m.out 2).trans rfl, (blk_cell m.out 3).trans rfl, (blk_cell m.out 4).trans rfl, (blk_cell m.out 5).trans rfl⟩) (fun M => ?_)
   clear hK K
   apply nmA 45
   apply oN 7 (some 46); intro K hK
   obtain ⟨gK, oK, cK2, q, d8, R, c, a5, a2, a0, C⟩ := kid_append (W := L) 34 w'.heap.size HM.out Y.out (fun k hk => (show (m1 ≤ k ∧ k ≠ gn) from by have I := Z.out; omega)) (show (m1 ≤ bV ∧ bV ≠ gn) from by have I := Z.out; omega) c0.out (by have := HL.out; omega)
   refine appendR_ (.tmp 42) (.tmp 45) (by rfl) rfl rfl rfl rfl R ?_
   replace Z := Aside0.mk (And.intro (a5) Z.out)
   replace Z := Aside0.mk (And.intro (a2) Z.out)
   clear a5 a2 R
   replace a0 := Aside0.mk a0
   replace C := Aside0.mk C
   clear c0 Y HM
   have I := Z.out
   replace G := G.f1 c (by omega)
   replace o := o.p1 c (by omega)
   replace b := b.b1 c (by omega)
   replace J := J.q1 c (fun k hk => by omega)
   replace O := O.n1 c (fun k hk => by omega)
   replace m := m.b1 c (by omega)
   clear I
   replace Z := Z.k c
   clear c
   refine hK.out _ _ (show (q.cell? ⟨gn, 5, none⟩ = some (.slice AK ks.length cK)) ∧ (q.cell? ⟨U, 0, none⟩ = some (.int .i64 x.1.kind)) ∧ (q.cell? ⟨U, 1, none⟩ = some (.string x.1.text)) ∧ (q.cell? ⟨U, 2, none⟩ = some (.int .i64 x.1.place)) ∧ (q.cell? ⟨U, 3, none⟩ = some (.int .i64 x.1.n)) ∧ (q.cell? ⟨U, 4, none⟩ = some (.slice Ana x.1.names.length cna)) ∧ (q.cell? ⟨U, 5, none⟩ = some (.slice Aka x.1.kids.length cka)) from ⟨(blk_cell b.out 5).trans rfl, (blk_cell m.out 0).trans rfl, (blk_cell m.out 1).trans rfl, (blk_cell m.out 2).trans rfl, (blk_cell m.out 3).trans rfl, (blk_cell m.out 4).trans rfl, (blk_cell m.out 5).trans rfl⟩) (fun M => ?_)
   clear hK K
   apply nmA 46
   have hix0 : (0 : Int) ≤ (ks.length : Int) := by omega
   have hix1 : (ks.length : Int) < (ks.length : Int) + 1 := by omega
   apply puA 8 47
   apply puA 10 48
   apply puA 11 49
   refine join_ (σ := Unit) 0 #[true, true, true, true, true, true, true, true, true, true, true, true, true] (fun _ => []) (fun _ w2' => w2'.heap[gn]? = some (.cells #[va, vb, vc, vn, .slice An ns2.length cn, .slice (some ⟨gK, oK, none⟩) (ks.length + 1) cK2] 36 (0, 0)) ∧ kNd.Q 36 w2' 0 (fun k => (m1 ≤ k ∧ k ≠ gn)) (.slice (some ⟨gK, oK, none⟩) (ks.length + 1) cK2) (ks ++ [x.1]) ∧ Fr (fun k => k = gn ∨ k = gK) q w2') ?_ ?_
   rotate_left
   ·intro hCont
    refine two_last_ (i := 9) (j := 12) (Ni := none) (Nj := none) #[true, true, true, true, true, true, true, true, true, true, true, true, false] #[true, true, true, true, true, true, true, true, true, false, true, true, true] rfl rfl rfl rfl (by kernel_rfl) (by decide) (by decide) (fun K hK => ?_) (fun K hK => ?_)
    ·skip
     have KC := Aside0.mk (Fr.refl (fun k => k = gn ∨ k = gK) q)
     have a1 := C.out q x.1 _ _ (fun k => False) (fun k => (w'.heap.size ≤ k ∧ k < a3.heap.size)) (Fr.refl _ _) (fun k (hk : (m1 ≤ k ∧ k ≠ gn)) => (show ¬ (False) from fun h => h)) O.out (fun k (hk : (w'.heap.size ≤ k ∧ k < a3.heap.size)) => (show ((m1 ≤ k ∧ k ≠ gn)) ∧ k ≠ gK from by have I := Z.out; omega))
     have V := a0.out q (fun k => False) (Fr.refl _ _) (fun h => h)
     obtain ⟨c4, hc0_, hf0_⟩ := V 0 (by decide)
     replace hc0_ : World.cell? q ⟨gK, oK + ks.length * 6, none⟩ = some c4 := hc0_
     replace hf0_ : World.frozen? q ⟨gK, oK + ks.length * 6, none⟩ = false := hf0_
     obtain ⟨c5, hc1_, hf1_⟩ := V 1 (by decide)
     replace hc1_ : World.cell? q ⟨gK, oK + ks.length * 6 + 1, none⟩ = some c5 := hc1_
     replace hf1_ : World.frozen? q ⟨gK, oK + ks.length * 6 + 1, none⟩ = false := hf1_
     obtain ⟨c7, hc2_, hf2_⟩ := V 2 (by decide)
     replace hc2_ : World.cell? q ⟨gK, oK + ks.length * 6 + 2, none⟩ = some c7 := hc2_
     replace hf2_ : World.frozen? q ⟨gK, oK + ks.length * 6 + 2, none⟩ = false := hf2_
     obtain ⟨c8, hc3_, hf3_⟩ := V 3 (by decide)
     replace hc3_ : World.cell? q ⟨gK, oK + ks.length * 6 + 3, none⟩ = some c8 := hc3_
     replace hf3_ : World.frozen? q ⟨gK, oK + ks.length * 6 + 3, none⟩ = false := hf3_
     obtain ⟨d0, hc4_, hf4_⟩ := V 4 (by decide)
     replace hc4_ : World.cell? q ⟨gK, oK + ks.length * 6 + 4, none⟩ = some d0 := hc4_
     replace hf4_ : World.frozen? q ⟨gK, oK + ks.length * 6 + 4, none⟩ = false := hf4_
     obtain ⟨d1, hc5_, hf5_⟩ := V 5 (by decide)
     replace hc5_ : World.cell? q ⟨gK, oK + ks.length * 6 + 5, none⟩ = some d1 := hc5_
     replace hf5_ : World.frozen? q ⟨gK, oK + ks.length * 6 + 5, none⟩ = false := hf5_
     obtain ⟨D, v⟩ : ∃ W_, W_ = World.setCells q gK (oK + ks.length * 6) [.int .i64 x.1.kind, .string x.1.text, .int .i64 x.1.place, .int .i64 x.1.n, .slice Ana x.1.names.length cna, .slice Aka x.1.kids.length cka] := ⟨_, rfl⟩
     rw [← v] at a1
     refine skip_ (w1 := D) (by rfl) rfl ?_ ?_
     ·rw [v]
      clear v a1
      go_simp
      (try rfl)
     have c := a1.2
     replace KC := Aside0.mk (KC.out.then_ c (fun k (hk : k = gK) => .inl (by omega)))
     have I := Z.out
     replace b := b.b1 c (by omega)
     replace O := O.n1 c (fun k hk => by omega)
     clear I
     replace Z := Z.k c
     have Y := Aside0.mk a1.1
     clear a1 V hf0_ hf1_ hf2_ hf3_ hf4_ hf5_ hc0_ hc1_ hc2_ hc3_ hc4_ hc5_ c v C a0
     refine hK.out _ _ ?_
     clear hK K
     apply la 12 none; intro K hK
     have V := b.z
     have b4 := b.c6
     have a8 := b.st 5 (.slice (some ⟨gK, oK, none⟩) (ks.length + 1) cK2) (cs' := #[va, vb, vc, vn, .slice An ns2.length cn, .slice (some ⟨gK, oK, none⟩) (ks.length + 1) cK2]) rfl
     clear b
     obtain ⟨a4, v, c, b⟩ := a8
     replace KC := Aside0.mk (KC.out.then_ c (fun k (hk : k = gn) => .inl (by omega)))
     refine skip_ (w1 := a4) (by rfl) rfl ?_ ?_
     ·rw [← v]
      clear v
      go_simp
      (try rfl)
     have I := Z.out
     replace O := O.n1 c (fun k hk => by omega)
     replace Y := Y.q1 c (fun k hk => by omega)
     clear I
     replace Z := Z.k c
     clear V b4 v c
     refine hK.out _ _ ?_
     clear hK K
     exact hCont () _ ⟨b.out, Y.out, KC.out⟩
    ·skip
     have KC := Aside0.mk (Fr.refl (fun k => k = gn ∨ k = gK) q)
     have V := b.z
     have b4 := b.c6
     have a8 := b.st 5 (.slice (some ⟨gK, oK, none⟩) (ks.length + 1) cK2) (cs' := #[va, vb, vc, vn, .slice An ns2.length cn, .slice (some ⟨gK, oK, none⟩) (ks.length + 1) cK2]) rfl
     clear b
     obtain ⟨D, v, c, b⟩ := a8
     replace KC := Aside0.mk (KC.out.then_ c (fun k (hk : k = gn) => .inl (by omega)))
     refine skip_ (w1 := D) (by rfl) rfl ?_ ?_
     ·rw [← v]
      clear v
      go_simp
      (try rfl)
     have I := Z.out
     replace O := O.n1 c (fun k hk => by omega)
     clear I
     replace Z := Z.k c
     have d7 := Aside0.mk c
     clear V b4 v c
     refine hK.out _ _ ?_
     clear hK K
     apply la 9 none; intro K hK
     have a1 := C.out D x.1 _ _ (fun k => k = gn) (fun k => (w'.heap.size ≤ k ∧ k < a3.heap.size)) d7.out (fun k (hk : (m1 ≤ k ∧ k ≠ gn)) => (show ¬ (k = gn) from by have I := Z.out; omega)) O.out (fun k (hk : (w'.heap.size ≤ k ∧ k < a3.heap.size)) => (show ((m1 ≤ k ∧ k ≠ gn)) ∧ k ≠ gK from by have I := Z.out; omega))
     have V := a0.out D (fun k => k = gn) d7.out (by have I := Z.out; omega)
     obtain ⟨c4, hc0_, hf0_⟩ := V 0 (by decide)
     replace hc0_ : World.cell? D ⟨gK, oK + ks.length * 6, none⟩ = some c4 := hc0_
     replace hf0_ : World.frozen? D ⟨gK, oK + ks.length * 6, none⟩ = false := hf0_
     obtain ⟨c5, hc1_, hf1_⟩ := V 1 (by decide)
     replace hc1_ : World.cell? D ⟨gK, oK + ks.length * 6 + 1, none⟩ = some c5 := hc1_
     replace hf1_ : World.frozen? D ⟨gK, oK + ks.length * 6 + 1, none⟩ = false := hf1_
     obtain ⟨c7, hc2_, hf2_⟩ := V 2 (by decide)
     replace hc2_ : World.cell? D ⟨gK, oK + ks.length * 6 + 2, none⟩ = some c7 := hc2_
     replace hf2_ : World.frozen? D ⟨gK, oK + ks.length * 6 + 2, none⟩ = false := hf2_
     obtain ⟨c8, hc3_, hf3_⟩ := V 3 (by decide)
     replace hc3_ : World.cell? D ⟨gK, oK + ks.length * 6 + 3, none⟩ = some c8 := hc3_
     replace hf3_ : World.frozen? D ⟨gK, oK + ks.length * 6 + 3, none⟩ = false := hf3_
     obtain ⟨d0, hc4_, hf4_⟩ := V 4 (by decide)
     replace hc4_ : World.cell? D ⟨gK, oK + ks.length * 6 + 4, none⟩ = some d0 := hc4_
     replace hf4_ : World.frozen? D ⟨gK, oK + ks.length * 6 + 4, none⟩ = false := hf4_
     obtain ⟨d1, hc5_, hf5_⟩ := V 5 (by decide)
     replace hc5_ : World.cell? D ⟨gK, oK + ks.length * 6 + 5, none⟩ = some d1 := hc5_
     replace hf5_ : World.frozen? D ⟨gK, oK + ks.length * 6 + 5, none⟩ = false := hf5_
     obtain ⟨a4, v⟩ : ∃ W_, W_ = World.setCells D gK (oK + ks.length * 6) [.int .i64 x.1.kind, .string x.1.text, .int .i64 x.1.place, .int .i64 x.1.n, .slice Ana x.1.names.length cna, .slice Aka x.1.kids.length cka] := ⟨_, rfl⟩
     rw [← v] at a1
     refine skip_ (w1 := a4) (by rfl) rfl ?_ ?_
     ·rw [v]
      clear v a1
      go_simp
      (try rfl)
     have c := a1.2
     replace KC := Aside0.mk (KC.out.then_ c (fun k (hk : k = gK) => .inl (by omega)))
     have I := Z.out
     replace b := b.b1 c (by omega)
     replace O := O.n1 c (fun k hk => by omega)
     clear I
     replace Z := Z.k c
     have Y := Aside0.mk a1.1
     clear a1 V hf0_ hf1_ hf2_ hf3_ hf4_ hf5_ hc0_ hc1_ hc2_ hc3_ hc4_ hc5_ c v C a0
     refine hK.out _ _ ?_
     clear hK K
     exact hCont () _ ⟨b.out, Y.out, KC.out⟩
   rintro ⟨⟩ D ⟨P, a5, c⟩
   clear C a0
   have I := Z.out
   replace G := Aside0.mk (G.out.then_ c (fun k (hk : (k = gn ∨ k = gK)) => (show (k = pb ∨ k = gn ∨ S k) ∨ w.heap.size ≤ k from by omega)))
   replace o := Aside0.mk (o.out.frL c (fun k (hk : (k = gn ∨ k = gK)) => (show k < Low.lo ∨ B ≤ k from by omega)))
   replace J := Aside0.mk (c.Q J.out (fun k (hk : ((S k ∨ w.heap.size ≤ k) ∧ B ≤ k ∧ k ≠ gn ∧ k < m1)) => (show ¬ ((k = gn ∨ k = gK)) from by omega)))
   replace O := Aside0.mk (c.nq O.out (fun k (hk : (w'.heap.size ≤ k ∧ k < a3.heap.size)) => (show ¬ ((k = gn ∨ k = gK)) from by omega)))
   replace m := Aside0.mk (c.blk m.out (show ¬ ((U = gn ∨ U = gK)) from by omega))
   clear I
   replace Z := Z.k c
   have e_ : (ks ++ [x.1]).length = ks.length + 1 := by simp
   replace b := Aside0.mk P
   have Y := Aside0.mk a5
   clear c P a5
   clear O
   refine done_ (by kernel_rfl) ?_
   simp only [putAll]
   have H2 := H.out
   change SP.bind (if SP.hk l2 = 14 then (if x.2 = true then (if SP.hk (SP.tl l2) = e then SP.ret (ks ++ [x.1]) (SP.tl l2) else SP.bad (SP.tl l2) 20) else SP.stmts k1 d e (SP.tl l2) (ks ++ [x.1])) else (if SP.hk l2 = e then SP.ret (ks ++ [x.1]) l2 else SP.bad l2 20)) (fun ks l3 => SP.ret (ns2, ks) l3) = some r at H2
   clear H
   cases l2 with
   | nil =>
    rw [if_neg (show ¬ SP.hk [] = 14 by decide), if_neg (hk_nil he0)] at H2
    simp [SP.bad, SP.top, SP.bind] at H2
   | cons u2 l3 =>
   by_cases h14 : u2.f0 = 14
   ·have c14 : (u2.f0 == 14) = true := by simp [h14]
    have htl := Aside0.mk (show SP.tl (u2 :: l3) = l3 by simp [SP.tl, h14])
    rw [if_pos (show SP.hk (u2 :: l3) = 14 from h14), htl.out] at H2
    by_cases hx2 : x.2 = true
    ·rw [if_pos hx2] at H2
     cases l3 with
     | nil =>
      rw [if_neg (hk_nil he0)] at H2
      simp [SP.bad, SP.top, SP.bind] at H2
     | cons u3 l4 =>
     by_cases h3 : u3.f0 = e
     ·have c3 : (u3.f0 != e) = false := by simp [h3]
      rw [if_pos (show SP.hk (u3 :: l4) = e from h3)] at H2
      simp only [SP.ret, SP.bind, Option.some.injEq] at H2
      subst H2
      clear h3 h14
      have A := m.e6
      have p := b.c6
      have E : U ≠ gn ∧ gn ≠ U := (by have I := Z.out; omega)
      go_wp2_with (first
       | ((with_reducible refine gate_dst (N := 51) rfl ?_); (try (refine gate_guard (by rfl) ?_; dsimp only)); apply kindE 51 o)
       | ((with_reducible refine gate_dst (N := 54) rfl ?_); apply takeE 54 o; intro a4 s c; replace o := Aside0.mk s; clear s; have I := Z.out; replace G := G.f1 c (by omega); replace J := J.q1 c (fun k hk => by omega); replace m := m.b1 c (by omega); replace b := b.b1 c (by omega); replace Y := Y.q1 c (fun k hk => by omega); clear I; replace Z := Z.k c; clear c; clear A p E; have A := m.e6; have p := b.c6; have E : U ≠ gn ∧ gn ≠ U := (by have I := Z.out; omega); rw [htl.out] at o)
       | ((with_reducible refine gate_dst (N := 58) rfl ?_); (try (refine gate_guard (by rfl) ?_; dsimp only)); apply kindE 58 o))
      show bodyPost _ _ _ Exit.normal _ _
      refine bodyPost_end (results_none rfl _ _ _) rfl ?_
      exact ⟨rfl, ⟨_, _, _, _, by rw [e_]; exact b.out, Q_mono' J.out (fun k h1 _ => ⟨h1.1, h1.2.2.1⟩), by rw [e_]; exact Q_mono' Y.out (fun k h1 _ => ⟨Nat.le_trans hm1.out h1.1, h1.2⟩)⟩, o.out, G.out⟩
     ·have c3 : (u3.f0 != e) = true := by simp [h3]
      rw [if_neg (show ¬ SP.hk (u3 :: l4) = e from h3)] at H2
      simp only [SP.bad, SP.top, SP.bind, Option.some.injEq] at H2
      subst H2
      clear h3 h14
      have A := m.e6
      have p := b.c6
      have E : U ≠ gn ∧ gn ≠ U := (by have I := Z.out; omega)
      go_wp2_with (first
       | ((with_reducible refine gate_dst (N := 51) rfl ?_); (try (refine gate_guard (by rfl) ?_; dsimp only)); apply kindE 51 o)
       | ((with_reducible refine gate_dst (N := 54) rfl ?_); apply takeE 54 o; intro a4 s c; replace o := Aside0.mk s; clear s; have I := Z.out; replace G := G.f1 c (by omega); replace J := J.q1 c (fun k hk => by omega); replace m := m.b1 c (by omega); replace b := b.b1 c (by omega); replace Y := Y.q1 c (fun k hk => by omega); clear I; replace Z := Z.k c; clear c; clear A p E; have A := m.e6; have p := b.c6; have E : U ≠ gn ∧ gn ≠ U := (by have I := Z.out; omega); rw [htl.out] at o)
       | ((with_reducible refine gate_dst (N := 58) rfl ?_); (try (refine gate_guard (by rfl) ?_; dsimp only)); apply kindE 58 o)
       | ((with_reducible refine gate_dst (N := 62) rfl ?_); (try (refine gate_guard (by rfl) ?_; dsimp only)); apply badE 62 20 o))
      exact ⟨rfl, rfl, G.out, _, _, _, _, _, _, b.out⟩
    ·rw [if_neg hx2] at H2
     replace hx2 : x.2 = false := by simpa using hx2
     have H := Aside0.mk H2
     clear H2 h14
     have A := m.e6
     have p := b.c6
     have E : U ≠ gn ∧ gn ≠ U := (by have I := Z.out; omega)
     go_wp2_with (first
      | ((with_reducible refine gate_dst (N := 51) rfl ?_); (try (refine gate_guard (by rfl) ?_; dsimp only)); apply kindE 51 o)
      | ((with_reducible refine gate_dst (N := 54) rfl ?_); apply takeE 54 o; intro a4 s c; replace o := Aside0.mk s; clear s; have I := Z.out; replace G := G.f1 c (by omega); replace J := J.q1 c (fun k hk => by omega); replace m := m.b1 c (by omega); replace b := b.b1 c (by omega); replace Y := Y.q1 c (fun k hk => by omega); clear I; replace Z := Z.k c; clear c; clear A p E; have A := m.e6; have p := b.c6; have E : U ≠ gn ∧ gn ≠ U := (by have I := Z.out; omega); rw [htl.out] at o))
     go_step3
     refine ⟨rfl, k1, Nat.lt_succ_self _, ?_⟩
     exact jump_of (fr_any rfl) ⟨l3, ks ++ [x.1], H, o, ⟨_, hm1.out, by have I := Z.out; omega, _, _, _, _, by rw [e_]; exact b.out, J.out, by rw [e_]; exact Y.out⟩, G, ⟨by rw [e_]; have := HL.out; omega⟩⟩
   ·have c14 : (u2.f0 == 14) = false := by simp [h14]
    rw [if_neg (show ¬ SP.hk (u2 :: l3) = 14 from h14)] at H2
    by_cases h3 : u2.f0 = e
    ·have c3 : (u2.f0 != e) = false := by simp [h3]
     rw [if_pos (show SP.hk (u2 :: l3) = e from h3)] at H2
     simp only [SP.ret, SP.bind, Option.some.injEq] at H2
     subst H2
     clear h3 h14
     have A := m.e6
     have p := b.c6
     have E : U ≠ gn ∧ gn ≠ U := (by have I := Z.out; omega)
     go_wp2_with (first
      | ((with_reducible refine gate_dst (N := 51) rfl ?_); (try (refine gate_guard (by rfl) ?_; dsimp only)); apply kindE 51 o)
      | ((with_reducible refine gate_dst (N := 58) rfl ?_); (try (refine gate_guard (by rfl) ?_; dsimp only)); apply kindE 58 o))
     show bodyPost _ _ _ Exit.normal _ _
     refine bodyPost_end (results_none rfl _ _ _) rfl ?_
     exact ⟨rfl, ⟨_, _, _, _, by rw [e_]; exact b.out, Q_mono' J.out (fun k h1 _ => ⟨h1.1, h1.2.2.1⟩), by rw [e_]; exact Q_mono' Y.out (fun k h1 _ => ⟨Nat.le_trans hm1.out h1.1, h1.2⟩)⟩, o.out, G.out⟩
    ·have c3 : (u2.f0 != e) = true := by simp [h3]
     rw [if_neg (show ¬ SP.hk (u2 :: l3) = e from h3)] at H2
     simp only [SP.bad, SP.top, SP.bind, Option.some.injEq] at H2
     subst H2
     clear h3 h14
     have A := m.e6
     have p := b.c6
     have E : U ≠ gn ∧ gn ≠ U := (by have I := Z.out; omega)
     go_wp2_with (first
      | ((with_reducible refine gate_dst (N := 51) rfl ?_); (try (refine gate_guard (by rfl) ?_; dsimp only)); apply kindE 51 o)
      | ((with_reducible refine gate_dst (N := 58) rfl ?_); (try (refine gate_guard (by rfl) ?_; dsimp only)); apply kindE 58 o)
      | ((with_reducible refine gate_dst (N := 62) rfl ?_); (try (refine gate_guard (by rfl) ?_; dsimp only)); apply badE 62 20 o))
     exact ⟨rfl, rfl, G.out, _, _, _, _, _, _, b.out⟩
end Go.Proofs.Ytpodpmjlkbbkoaa.P
set_option maxHeartbeats 16000000
set_option maxRecDepth 100000
namespace Go.Proofs.Ytpodpmjlkbbkoaa.P
open Go.RowKit Go.Proofs.YtpodpmjlkbbkoaaW.PrintWords Go.Proofs.YtpodpmjlkbbkoaaW.PrintLast Go.Proofs.YtpodpmjlkbbkoaaW.PrintMore
variable [Low]
attribute [local go_sem] field64_1 field64_2
omit [Low] in
theorem need_len {kd : Int} {l l2 : List S28} {t : S28} (h : SP.need kd l = some (.ok (t, l2))) : l2.length ≤ l.length := by
 cases l with
 | nil => simp [SP.need, SP.top] at h
 | cons u l =>
  simp only [SP.need, SP.top] at h
  split at h
  ·simp only [SP.ret, Option.some.injEq, Except.ok.injEq, Prod.mk.injEq] at h
   rw [← h.2]
   show (if u.f0 = 0 then u :: l else l).length ≤ _
   split
   ·exact Nat.le_refl _
   ·exact Nat.le_succ _
  ·simp [SP.bad, SP.top] at h
def blkS (k : Nat) (d : Int) (l : List S28) : SP.PR (Nat × List ByteArray × List SP.Nd) := SP.bind (SP.args k l []) fun ns l3 =>
 SP.bind (if ns ≠ [] ∧ SP.hk l3 ≠ 11 then SP.bind (SP.need 12 l3) (fun _ l4 => SP.ret () l4) else SP.ret () l3) fun _ l4 =>
 SP.bind (SP.body k d 11 l4 ns) fun nk l5 => SP.ret (ns.length, nk.1, nk.2) (SP.tl l5)
def blkS2 (k : Nat) (d : Int) (ns : List ByteArray) (l3 : List S28) : SP.PR (Nat × List ByteArray × List SP.Nd) :=
 SP.bind (if ns ≠ [] ∧ SP.hk l3 ≠ 11 then SP.bind (SP.need 12 l3) (fun _ l4 => SP.ret () l4) else SP.ret () l3) fun _ l4 =>
 SP.bind (SP.body k d 11 l4 ns) fun nk l5 => SP.ret (ns.length, nk.1, nk.2) (SP.tl l5)
def CBody (k : Nat) : Prop := ∀ (B pb gn : Nat) (d e : Int) (l : List S28) (ns : List ByteArray) (S : Nat → Prop) (r : Except (Int × Int) ((List ByteArray × List SP.Nd) × List S28)) (w : World) (va vb vc vn : Value) (An : Option Addr) (cn : Nat), SP.body k d e l ns = some r → PS B w pb l d → (gn < Low.lo ∨ B ≤ gn) → w.heap[gn]? = some (.cells #[va, vb, vc, vn, .slice An ns.length cn, .slice none 0 0] 36 (0, 0)) → Kd.string.Q 9 w 0 S (.slice An ns.length cn) ns → (∀ k, S k → B ≤ k ∧ k ≠ gn) → ns.length + l.length ≤ 1073741824 → 0 ≤ e →
  Calls Try.prog 20 #[.pointer (some ⟨pb, 0, none⟩), .pointer (some ⟨gn, 0, none⟩), .int .i64 e] w (AnsN r B pb gn d (fun k => k = pb ∨ k = gn ∨ S k) w (fun nk w' => NB gn (fun k => (S k ∨ w.heap.size ≤ k) ∧ k ≠ gn) (fun k => w.heap.size ≤ k ∧ k ≠ gn) va vb vc vn nk.1 nk.2 w'))
theorem tree_body.step {k : Nat} (ihst : ∀ j, j ≤ k → CB 33 SP.stmt j) (hk : k ≤ 1073741824) : CBody (k + 1) := by
 intro B pb gn d e l ns S r w va vb vc vn An cn hr h hgB hg hn hS hl he
 unfold SP.body at hr
 obtain ⟨rt, ht⟩ := bind_none hr
 rw [ht] at hr
 rcases rt with x | ⟨a, l2⟩
 ·exact tree_body.calls (ns2 := []) ihst hk w va vb vc vn An cn h hgB hg hn hS hl he ht (fun a l2 e => by cases e) hr
 ·exact tree_body.calls (ns2 := a) ihst hk w va vb vc vn An cn h hgB hg hn hS hl he ht (fun a' l2' e => by injection e with e; simp only [Prod.mk.injEq] at e; exact e.1) hr
omit [Low] in
theorem stmts_rest : ∀ (k : Nat) (d e : Int) (l : List S28) (ks : List SP.Nd) (a : List SP.Nd) (l2 : List S28), 0 ≤ e → SP.stmts k d e l ks = some (.ok (a, l2)) → ∃ u l3, l2 = u :: l3
 | 0, _, _, _, _, _, _, _, h => by simp [SP.stmts] at h
 | k + 1, d, e, l, ks, a, l2, he, h => by
  have nn : ∀ l : List S28, SP.hk l = e → ∃ u l3, l = u :: l3 := fun l hl => by
   cases l with
   | nil => exact absurd hl (hk_nil he)
   | cons u l3 => exact ⟨u, l3, rfl⟩
  have nb : ∀ (l : List S28) (x : List SP.Nd × List S28), ¬ (SP.bad l 20 : SP.PR (List SP.Nd)) = some (.ok x) := fun l x hx => by
   cases l <;> simp [SP.bad, SP.top] at hx
  unfold SP.stmts at h
  by_cases h0 : SP.hk l = e
  ·rw [if_pos h0] at h
   simp only [SP.ret, Option.some.injEq, Except.ok.injEq, Prod.mk.injEq] at h
   rw [← h.2]
   exact nn l h0
  ·rw [if_neg h0] at h
   obtain ⟨r1, h1⟩ := bind_none h
   rw [h1] at h
   rcases r1 with x | ⟨nl, l3⟩
   ·simp [SP.bind] at h
   ·simp only [SP.bind] at h
    split at h
    ·split at h
     ·split at h
      ·rename_i h5
       simp only [SP.ret, Option.some.injEq, Except.ok.injEq, Prod.mk.injEq] at h
       rw [← h.2]
       exact nn _ h5
      ·exact absurd h (nb _ _)
     ·exact stmts_rest k d e _ _ a l2 he h
    ·split at h
     ·rename_i h5
      simp only [SP.ret, Option.some.injEq, Except.ok.injEq, Prod.mk.injEq] at h
      rw [← h.2]
      exact nn _ h5
     ·exact absurd h (nb _ _)
omit [Low] in
theorem body_rest {k : Nat} {d : Int} {l : List S28} {ns : List ByteArray} {nk : List ByteArray × List SP.Nd} {l2 : List S28} (h : SP.body k d 11 l ns = some (.ok (nk, l2))) : ∃ u l3, l2 = u :: l3 := by
 cases k with
 | zero => simp [SP.body] at h
 | succ k =>
  unfold SP.body at h
  obtain ⟨r1, h1⟩ := bind_none h
  rw [h1] at h
  rcases r1 with x | ⟨a, l3⟩
  ·simp [SP.bind] at h
  ·simp only [SP.bind] at h
   obtain ⟨r2, h2⟩ := bind_none h
   rw [h2] at h
   rcases r2 with x | ⟨ks, l4⟩
   ·simp [SP.bind] at h
   ·simp only [SP.bind, SP.ret, Option.some.injEq, Except.ok.injEq, Prod.mk.injEq] at h
    obtain ⟨_, rfl⟩ := h
    exact stmts_rest k d 11 l3 [] ks l4 (by decide) h2
theorem tree_block1.calls {k : Nat} (ihb : CBody k) (hk : k ≤ 1073741824) {B pb g1 g3 : Nat} {l : List S28} {d : Int} {r : Except (Int × Int) ((Nat × List ByteArray × List SP.Nd) × List S28)} (w : World) (va vb vc vn : Value) (h : PS B w pb l d)
  (h1 : w.heap[g1]? = some (.cells #[.pointer (some ⟨pb, 0, none⟩)] 45 (0, 0))) (h3 : w.heap[g3]? = some (.cells #[va, vb, vc, vn, .slice none 0 0, .slice none 0 0] 36 (0, 0))) (hg1 : B ≤ g1) (hg3 : B ≤ g3) (h13 : g1 ≠ g3)
  (hr : SP.bind (SP.args k l []) (fun ns l3 => blkS2 k d ns l3) = some r) :
  Calls Try.prog 87 #[.pointer (some ⟨g1, 0, none⟩), .pointer (some ⟨g3, 0, none⟩)] w (AnsC r B pb d (fun k => k = pb ∨ k = g3) w (fun a w' => NB g3 (fun k => w.heap.size ≤ k ∧ k ≠ g3) (fun k => w.heap.size ≤ k ∧ k ≠ g3) va vb vc (.int .i64 (a.1 : Int)) a.2.1 a.2.2 w')) := by
 have hu36 := Try.underlying36
 have hu64 := Try.underlying64
 have Z0 := Aside0.mk (show pb < B ∧ B ≤ w.heap.size ∧ B ≤ g1 ∧ B ≤ g3 ∧ g1 ≠ g3 ∧ g1 < w.heap.size ∧ g3 < w.heap.size from ⟨h.1, h.2.1, hg1, hg3, h13, blk_lt h1, blk_lt h3⟩)
 obtain ⟨vn0, hvn0⟩ : ∃ v, v = vn := ⟨_, rfl⟩
 go_enter Try.func87, Try.ntmps87
 go_wp2
 go_loopg [] k (fun kq w' => ∃ (l' : List S28) (ns : List ByteArray) (AN : Option Addr) (cN : Nat), Aside0 (SP.bind (SP.args kq l' ns) (fun ns l3 => blkS2 k d ns l3) = some r) ∧ Aside0 (PS B w' pb l' d) ∧ Aside0 (w'.heap[g1]? = some (.cells #[.pointer (some ⟨pb, 0, none⟩)] 45 (0, 0))) ∧ Aside0 (w'.heap[g3]? = some (.cells #[va, vb, vc, vn, .slice AN ns.length cN, .slice none 0 0] 36 (0, 0))) ∧ Aside0 (Kd.string.Q 9 w' 0 (fun k => (w.heap.size ≤ k ∧ k ≠ g3)) (.slice AN ns.length cN) ns) ∧ Aside0 (Fr (fun k => k = pb ∨ k = g3) w w') ∧ Aside0 (ns.length + l'.length ≤ 1073741824 ∧ kq ≤ k))
 case atStart => exact ⟨l, [], _, _, ⟨hr⟩, ⟨h⟩, ⟨h1⟩, ⟨h3⟩, ⟨Kd.Q_nil _ _ _ _ _⟩, ⟨Fr.refl _ _⟩, ⟨by have := h.len; simpa using this, Nat.le_refl _⟩⟩
 case round =>
  clear hr h h1 h3 hg1 hg3 h13 hvn0
  obtain ⟨l', ns, AN, cN, H, m, c, b, x, y, HL0⟩ := hrel
  have HL := Aside0.mk HL0.out.1
  have hlp := Aside0.mk HL0.out.2
  have Z := Aside0.mk (And.intro y.out.size Z0.out)
  clear HL0
  cases gk with
  | zero => exact absurd H.out (by simp [SP.args, SP.bind])
  | succ k1 =>
   cases l' with
   | nil => exact absurd H.out (by simp [SP.args, SP.top, SP.bind])
   | cons u l1 =>
    by_cases h16 : u.f0 = 16
    ·have c16 : (u.f0 == 16) = true := by simp [h16]
     have htl := Aside0.mk (show SP.tl (u :: l1) = l1 by simp [SP.tl, h16])
     have H2 := H.out
     simp only [SP.args, SP.top, h16, if_true, bind_assoc] at H2
     rw [htl.out] at H2
     obtain ⟨r1, he⟩ := bind_none H2
     rw [he] at H2
     replace H := Aside0.mk H2
     replace he := Aside0.mk he
     clear H2 h16
     replace x := Aside0.mk (Q_mono' (T := fun k => ((w.heap.size ≤ k ∧ k ≠ g3) ∧ k < wr.heap.size)) x.out (fun k q V => ⟨q, V⟩))
     have HM := Aside0.mk (fun k hk => Kd.Q_lt x.out k hk)
     have i := c.c1
     have j := b.c6
     go_wp2_with (first
      | ((with_reducible refine gate_dst (N := 3) rfl ?_); (try (refine gate_guard (by rfl) ?_; dsimp only)); apply kindE 3 m)
      | ((with_reducible refine gate_dst (N := 6) rfl ?_); apply takeE 6 m; intro C o e; rw [htl.out] at o; replace m := Aside0.mk o; clear o; have p := Z.out; replace y := y.f1 e (by omega); replace c := c.b1 e (by omega); replace b := b.b1 e (by omega); replace x := x.q1 e (fun k hk => by omega); clear p; replace Z := Z.k e; clear e; clear i j; have i := c.c1; have j := b.c6))
     refine start_ (n := 9) (S := fun w' => (w'.cell? ⟨g3, 4, none⟩ = some (.slice AN ns.length cN)) ∧ (w'.cell? ⟨g1, 0, none⟩ = some (.pointer (some ⟨pb, 0, none⟩)))) (ds := [8]) #[false, false, false, false, false, false, false, false, false] (by kernel_rfl) rfl rfl (show ((World.drew C).cell? ⟨g3, 4, none⟩ = some (.slice AN ns.length cN)) ∧ ((World.drew C).cell? ⟨g1, 0, none⟩ = some (.pointer (some ⟨pb, 0, none⟩))) from ⟨(blk_cell b.out 4).trans rfl, (blk_cell c.out 0).trans rfl⟩) (fun I => ?_)
     obtain ⟨a4, D⟩ : ∃ W_, W_ = World.drew C := ⟨_, rfl⟩
     rw [← D] at I ⊢
     have e : Fr (fun _ => False) C a4 := (by rw [D]; exact (Fr.refl _ _).drew)
     replace y := y.f0 e
     replace m := m.p0 e
     replace c := c.b0 e
     replace b := b.b0 e
     replace x := x.q0 e
     replace Z := Z.k e
     clear e D
     clear i j
     apply puA 0 7
     apply tkA 1 8 I
     apply tkA 2 9 I
     apply oN 3 (some 10); intro K hK
     refine goesR_ Try.func22 (by kernel_rfl) rfl #[.pointer (some ⟨pb, 0, none⟩), .int .i64 1] (by rfl) rfl rfl (by (try simp only [List.map_toArray, List.map_cons, List.map_nil]); first | done | rfl) ?_
     refine (tree_need.calls _ 1 he.out m.out).mono ?_
     rintro R F G
     rcases r1 with x_ | ⟨t1, l2⟩
     (obtain ⟨rfl, e⟩ := G; obtain rfl : r = Except.error x_ := (Option.some.inj H.out).symm; exact Or.inr ⟨_, rfl, rfl, rfl, y.out.then_ e (fun k hk => .inl (.inl hk))⟩)
     obtain ⟨v_, rfl, hv_, o, e⟩ := G
     subst hv_
     refine Or.inl ⟨_, rfl, ?_⟩
     replace m := Aside0.mk o
     have p := Z.out
     replace y := y.f1 e (by omega)
     replace c := c.b1 e (by omega)
     replace b := b.b1 e (by omega)
     replace x := x.q1 e (fun k hk => by omega)
     clear p
     replace Z := Z.k e
     clear o e
     refine hK.out _ _ (show (F.cell? ⟨g3, 4, none⟩ = some (.slice AN ns.length cN)) ∧ (F.cell? ⟨g1, 0, none⟩ = some (.pointer (some ⟨pb, 0, none⟩))) from ⟨(blk_cell b.out 4).trans rfl, (blk_cell c.out 0).trans rfl⟩) (fun I => ?_)
     clear hK K
     apply nmA 10
     apply puA 4 11
     apply oN 5 (some 12); intro K hK
     refine newR_ (cs := #[.string t1.f1]) (t := 9) (by rfl) rfl ?hr ?_
     (case hr => first | (go_simp; done) | (go_simp; rfl))
     intro bS a2 E Y a5
     have e : Fr (fun _ => False) F E := Fr.of_below a5
     replace y := y.f0 e
     replace m := m.p0 e
     replace c := c.b0 e
     replace b := b.b0 e
     replace x := x.q0 e
     replace Z := Z.k e
     replace Z := Aside0.mk (And.intro (Nat.le_of_eq a2.symm) Z.out)
     replace Z := Aside0.mk (And.intro (Nat.le_of_eq a2) Z.out)
     replace Z := Aside0.mk (And.intro (blk_lt Y) Z.out)
     have a0 := Aside0.mk Y
     clear a2 Y a5 e
     refine hK.out _ _ (show (E.cell? ⟨g3, 4, none⟩ = some (.slice AN ns.length cN)) ∧ (E.cell? ⟨g1, 0, none⟩ = some (.pointer (some ⟨pb, 0, none⟩))) from ⟨(blk_cell b.out 4).trans rfl, (blk_cell c.out 0).trans rfl⟩) (fun I => ?_)
     clear hK K
     apply nmA 12
     apply oN 6 (some 13); intro K hK
     obtain ⟨AP, a6, a1, c0, L, A, e, a3⟩ := str_push (W := E) 22 wr.heap.size HM.out (Q_mono' (T := fun k => (w.heap.size ≤ k ∧ k ≠ g3)) x.out (fun k q _ => q.1)) (fun k hk => (show (w.heap.size ≤ k ∧ k ≠ g3) from by have p := Z.out; omega)) (show (w.heap.size ≤ bS ∧ bS ≠ g3) from by have p := Z.out; omega) a0.out (by have := HL.out; simp only [List.length_cons] at this; have := hlp.out; omega)
     refine appendR_ (.tmp 8) (.tmp 12) (by rfl) rfl rfl rfl rfl L ?_
     have a8 := a3.1.1
     replace Z := Aside0.mk (And.intro (a3) Z.out)
     clear a3 L a0 x HM
     have p := Z.out
     replace y := y.f1 e (by omega)
     replace m := m.p1 e (by omega)
     replace c := c.b1 e (by omega)
     replace b := b.b1 e (by omega)
     clear p
     replace Z := Z.k e
     clear e a8
     have x := Aside0.mk A
     clear A
     refine hK.out _ _ (show (a1.cell? ⟨g3, 4, none⟩ = some (.slice AN ns.length cN)) ∧ (a1.cell? ⟨g1, 0, none⟩ = some (.pointer (some ⟨pb, 0, none⟩))) from ⟨(blk_cell b.out 4).trans rfl, (blk_cell c.out 0).trans rfl⟩) (fun I => ?_)
     clear hK K
     apply nmA 13
     apply puA 7 14
     apply la 8 none; intro K hK
     have a9 := b.z
     have b2 := b.c6
     have X := b.st 4 (.slice AP (ns.length + 1) a6) (cs' := #[va, vb, vc, vn, .slice AP (ns.length + 1) a6, .slice none 0 0]) rfl
     clear b
     obtain ⟨a7, D, e, b⟩ := X
     refine skip_ (w1 := a7) (by rfl) rfl ?_ ?_
     ·rw [← D]
      clear D
      go_simp
      (try rfl)
     have p := Z.out
     replace y := y.f1 e (by omega)
     replace m := m.p1 e (by omega)
     replace c := c.b1 e (by omega)
     replace x := x.q1 e (fun k hk => by omega)
     clear p
     replace Z := Z.k e
     clear a9 b2 D e
     refine hK.out _ _ ?_
     clear hK K
     refine done_ (by kernel_rfl) ?_
     (try go_wp2)
     go_roundg k1
     case measure => omega
     case rel =>
      have R : (ns ++ [t1.f1]).length = ns.length + 1 := by simp
      exact ⟨l2, ns ++ [t1.f1], _, _, H, m, c, by rw [R]; exact b, by rw [R]; exact x, y, ⟨by rw [R]; have h1 := HL.out; have h2 := need_len he.out; simp only [List.length_cons] at h1; omega, by have := hlp.out; omega⟩⟩
    ·have c16 : (u.f0 == 16) = false := by simp [h16]
     have H2 := H.out
     simp only [SP.args, SP.top, h16, if_false, SP.ret, SP.bind] at H2
     change blkS2 k d ns (u :: l1) = some r at H2
     clear H h16
     unfold blkS2 at H2
     by_cases hn : ns = []
     ·rw [if_neg (fun h => h.1 hn)] at H2
      change SP.bind (SP.body k d 11 (u :: l1) ns) _ = some r at H2
      have hlen : (ns.length : Int) = 0 := by rw [hn]; rfl
      have hgt : decide ((0 : Int) < (ns.length : Int)) = false := by rw [hlen]; rfl
      have hgt2 : ¬ 0 < ns.length := by rw [hn]; simp
      obtain ⟨rb, hb⟩ := bind_none H2
      rw [hb] at H2
      have H := Aside0.mk H2
      replace hb := Aside0.mk hb
      have hln := HL
      clear H2 hn hlen
      have i := c.c1
      have j := b.e6
      have s : g3 ≠ g1 ∧ g1 ≠ g3 := (by have p := Z.out; omega)
      go_wp2_with (first
       | ((with_reducible refine gate_dst (N := 3) rfl ?_); (try (refine gate_guard (by rfl) ?_; dsimp only)); apply kindE 3 m)
       | ((with_reducible refine gate_dst (N := 30) rfl ?_); (try (refine gate_guard (by rfl) ?_; dsimp only)); have X := b.st 3 (.int .i64 (ns.length : Int)) (cs' := #[va, vb, vc, .int .i64 (ns.length : Int), .slice AN ns.length cN, .slice none 0 0]) rfl; clear b; obtain ⟨M, D, e, b⟩ := X; rw [D]; clear D; have p := Z.out; replace y := y.f1 e (by omega); replace m := m.p1 e (by omega); replace c := c.b1 e (by omega); replace x := x.q1 e (fun k hk => by omega); clear p; replace Z := Z.k e; clear e; clear i j s; have i := c.c1; have j := b.e6; have s : g3 ≠ g1 ∧ g1 ≠ g3 := (by have p := Z.out; omega); apply goE 30 Try.func20 (ihb B pb g3 d 11 (u :: l1) ns (fun k => ((w.heap.size ≤ k ∧ k ≠ g3) ∧ k < M.heap.size)) rb _ va vb vc (.int .i64 (ns.length : Int)) AN cN hb.out m.out (by have p := Z.out; omega) b.out (Q_mono' x.out (fun k q V => ⟨q, V⟩)) (fun k (hk : ((w.heap.size ≤ k ∧ k ≠ g3) ∧ k < M.heap.size)) => (show B ≤ k ∧ k ≠ g3 from by have p := Z.out; omega)) hln.out (by decide)); rintro R b3 G; rcases rb with x_ | ⟨nk, l5⟩; (obtain ⟨rfl, e, _⟩ := G; obtain rfl : r = Except.error x_ := (Option.some.inj H.out).symm; exact Or.inr ⟨_, rfl, rfl, rfl, y.out.then_ e (fun k (hk : (k = pb ∨ k = g3 ∨ ((w.heap.size ≤ k ∧ k ≠ g3) ∧ k < M.heap.size))) => (show (k = pb ∨ k = g3) ∨ w.heap.size ≤ k from by have p := Z.out; omega))⟩); obtain ⟨rfl, ⟨An2, cn2, Ak2, ck2, hb1_, J, A⟩, o, e⟩ := G; obtain rfl : r = Except.ok ((ns.length, nk.1, nk.2), SP.tl l5) := (Option.some.inj H.out).symm; refine Or.inl ⟨_, rfl, ?_⟩; replace m := Aside0.mk o; clear x; have x := Aside0.mk (Q_mono' (T := fun k => (w.heap.size ≤ k ∧ k ≠ g3)) J (fun k q _ => (show (w.heap.size ≤ k ∧ k ≠ g3) from ⟨q.1.elim (fun h => h.1.1) (fun h => by have p := Z.out; omega), q.2⟩))); have P := Aside0.mk (Q_mono' (T := fun k => (w.heap.size ≤ k ∧ k ≠ g3)) A (fun k q _ => (show (w.heap.size ≤ k ∧ k ≠ g3) from ⟨(by have p := Z.out; have := q.1; omega), q.2⟩))); have p := Z.out; replace y := Aside0.mk (y.out.then_ e (fun k (hk : (k = pb ∨ k = g3 ∨ ((w.heap.size ≤ k ∧ k ≠ g3) ∧ k < M.heap.size))) => (show (k = pb ∨ k = g3) ∨ w.heap.size ≤ k from by omega))); replace c := Aside0.mk (e.blk c.out (show ¬ ((g1 = pb ∨ g1 = g3 ∨ ((w.heap.size ≤ g1 ∧ g1 ≠ g3) ∧ g1 < M.heap.size))) from by omega)); clear p; replace Z := Z.k e; replace b := Aside0.mk hb1_; clear o e J A hb1_; obtain ⟨u5, l6, rfl⟩ := body_rest hb.out; clear i j s; have i := c.c1; have j := b.e6; have s : g3 ≠ g1 ∧ g1 ≠ g3 := (by have p := Z.out; omega))
       | ((with_reducible refine gate_dst (N := 32) rfl ?_); apply takeE 32 m; intro b4 o e; replace m := Aside0.mk o; clear o; have p := Z.out; replace y := y.f1 e (by omega); replace c := c.b1 e (by omega); replace b := b.b1 e (by omega); replace x := x.q1 e (fun k hk => by omega); replace P := P.q1 e (fun k hk => by omega); clear p; replace Z := Z.k e; clear e; clear i j s; have i := c.c1; have j := b.e6; have s : g3 ≠ g1 ∧ g1 ≠ g3 := (by have p := Z.out; omega)))
      refine bodyPost_end (results_none rfl _ _ _) rfl ?_
      exact ⟨rfl, ⟨_, _, _, _, b.out, x.out, P.out⟩, m.out, y.out⟩
     ·have hpos : 0 < ns.length := List.length_pos_iff.2 hn
      have hgt : decide ((0 : Int) < (ns.length : Int)) = true := decide_eq_true (by omega)
      by_cases h11 : u.f0 = 11
      ·have c11 : (u.f0 != 11) = false := by simp [h11]
       rw [if_neg (fun h => h.2 h11)] at H2
       change SP.bind (SP.body k d 11 (u :: l1) ns) _ = some r at H2
       obtain ⟨rb, hb⟩ := bind_none H2
       rw [hb] at H2
       have H := Aside0.mk H2
       replace hb := Aside0.mk hb
       have hln := HL
       clear H2 hn h11
       have i := c.c1
       have j := b.e6
       have s : g3 ≠ g1 ∧ g1 ≠ g3 := (by have p := Z.out; omega)
       go_wp2_with (first
        | ((with_reducible refine gate_dst (N := 3) rfl ?_); (try (refine gate_guard (by rfl) ?_; dsimp only)); apply kindE 3 m)
        | ((with_reducible refine gate_dst (N := 24) rfl ?_); (try (refine gate_guard (by rfl) ?_; dsimp only)); have X := b.st 3 (.int .i64 (ns.length : Int)) (cs' := #[va, vb, vc, .int .i64 (ns.length : Int), .slice AN ns.length cN, .slice none 0 0]) rfl; clear b; obtain ⟨O, D, e, b⟩ := X; rw [D]; clear D; have p := Z.out; replace y := y.f1 e (by omega); replace m := m.p1 e (by omega); replace c := c.b1 e (by omega); replace x := x.q1 e (fun k hk => by omega); clear p; replace Z := Z.k e; clear e; clear i j s; have i := c.c1; have j := b.e6; have s : g3 ≠ g1 ∧ g1 ≠ g3 := (by have p := Z.out; omega); apply kindE 24 m)
        | ((with_reducible refine gate_dst (N := 30) rfl ?_); (try (refine gate_guard (by rfl) ?_; dsimp only)); apply goE 30 Try.func20 (ihb B pb g3 d 11 (u :: l1) ns (fun k => ((w.heap.size ≤ k ∧ k ≠ g3) ∧ k < O.heap.size)) rb _ va vb vc (.int .i64 (ns.length : Int)) AN cN hb.out m.out (by have p := Z.out; omega) b.out (Q_mono' x.out (fun k q V => ⟨q, V⟩)) (fun k (hk : ((w.heap.size ≤ k ∧ k ≠ g3) ∧ k < O.heap.size)) => (show B ≤ k ∧ k ≠ g3 from by have p := Z.out; omega)) hln.out (by decide)); rintro R b5 G; rcases rb with x_ | ⟨nk, l5⟩; (obtain ⟨rfl, e, _⟩ := G; obtain rfl : r = Except.error x_ := (Option.some.inj H.out).symm; exact Or.inr ⟨_, rfl, rfl, rfl, y.out.then_ e (fun k (hk : (k = pb ∨ k = g3 ∨ ((w.heap.size ≤ k ∧ k ≠ g3) ∧ k < O.heap.size))) => (show (k = pb ∨ k = g3) ∨ w.heap.size ≤ k from by have p := Z.out; omega))⟩); obtain ⟨rfl, ⟨An2, cn2, Ak2, ck2, hb1_, J, A⟩, o, e⟩ := G; obtain rfl : r = Except.ok ((ns.length, nk.1, nk.2), SP.tl l5) := (Option.some.inj H.out).symm; refine Or.inl ⟨_, rfl, ?_⟩; replace m := Aside0.mk o; clear x; have x := Aside0.mk (Q_mono' (T := fun k => (w.heap.size ≤ k ∧ k ≠ g3)) J (fun k q _ => (show (w.heap.size ≤ k ∧ k ≠ g3) from ⟨q.1.elim (fun h => h.1.1) (fun h => by have p := Z.out; omega), q.2⟩))); have P := Aside0.mk (Q_mono' (T := fun k => (w.heap.size ≤ k ∧ k ≠ g3)) A (fun k q _ => (show (w.heap.size ≤ k ∧ k ≠ g3) from ⟨(by have p := Z.out; have := q.1; omega), q.2⟩))); have p := Z.out; replace y := Aside0.mk (y.out.then_ e (fun k (hk : (k = pb ∨ k = g3 ∨ ((w.heap.size ≤ k ∧ k ≠ g3) ∧ k < O.heap.size))) => (show (k = pb ∨ k = g3) ∨ w.heap.size ≤ k from by omega))); replace c := Aside0.mk (e.blk c.out (show ¬ ((g1 = pb ∨ g1 = g3 ∨ ((w.heap.size ≤ g1 ∧ g1 ≠ g3) ∧ g1 < O.heap.size))) from by omega)); clear p; replace Z := Z.k e; replace b := Aside0.mk hb1_; clear o e J A hb1_; obtain ⟨u5, l6, rfl⟩ := body_rest hb.out; clear i j s; have i := c.c1; have j := b.e6; have s : g3 ≠ g1 ∧ g1 ≠ g3 := (by have p := Z.out; omega))
        | ((with_reducible refine gate_dst (N := 32) rfl ?_); apply takeE 32 m; intro b6 o e; replace m := Aside0.mk o; clear o; have p := Z.out; replace y := y.f1 e (by omega); replace c := c.b1 e (by omega); replace b := b.b1 e (by omega); replace x := x.q1 e (fun k hk => by omega); replace P := P.q1 e (fun k hk => by omega); clear p; replace Z := Z.k e; clear e; clear i j s; have i := c.c1; have j := b.e6; have s : g3 ≠ g1 ∧ g1 ≠ g3 := (by have p := Z.out; omega)))
       refine bodyPost_end (results_none rfl _ _ _) rfl ?_
       exact ⟨rfl, ⟨_, _, _, _, b.out, x.out, P.out⟩, m.out, y.out⟩
      ·have c11 : (u.f0 != 11) = true := by simp [h11]
       rw [if_pos ⟨hn, h11⟩] at H2
       rw [bind_assoc] at H2
       obtain ⟨r2, hr2⟩ := bind_none H2
       rw [hr2] at H2
       have H := Aside0.mk H2
       replace hr2 := Aside0.mk hr2
       clear H2 hn h11
       have i := c.c1
       have j := b.e6
       have s : g3 ≠ g1 ∧ g1 ≠ g3 := (by have p := Z.out; omega)
       go_wp2_with (first
        | ((with_reducible refine gate_dst (N := 3) rfl ?_); (try (refine gate_guard (by rfl) ?_; dsimp only)); apply kindE 3 m)
        | ((with_reducible refine gate_dst (N := 24) rfl ?_); (try (refine gate_guard (by rfl) ?_; dsimp only)); have X := b.st 3 (.int .i64 (ns.length : Int)) (cs' := #[va, vb, vc, .int .i64 (ns.length : Int), .slice AN ns.length cN, .slice none 0 0]) rfl; clear b; obtain ⟨b7, D, e, b⟩ := X; rw [D]; clear D; have p := Z.out; replace y := y.f1 e (by omega); replace m := m.p1 e (by omega); replace c := c.b1 e (by omega); replace x := x.q1 e (fun k hk => by omega); clear p; replace Z := Z.k e; clear e; clear i j s; have i := c.c1; have j := b.e6; have s : g3 ≠ g1 ∧ g1 ≠ g3 := (by have p := Z.out; omega); apply kindE 24 m)
        | ((with_reducible refine gate_dst (N := 28) rfl ?_); (try (refine gate_guard (by rfl) ?_; dsimp only)); apply goE 28 Try.func22 (tree_need.calls _ 12 hr2.out m.out); rintro R U G; rcases r2 with x_ | ⟨t_, l4⟩; (obtain ⟨rfl, e⟩ := G; obtain rfl : r = Except.error x_ := (Option.some.inj H.out).symm; exact Or.inr ⟨_, rfl, rfl, rfl, y.out.then_ e (fun k hk => .inl (.inl hk))⟩); obtain ⟨v_, rfl, hv_, o, e⟩ := G; subst hv_; refine Or.inl ⟨_, rfl, ?_⟩; replace m := Aside0.mk o; have hl4 := need_len hr2.out; have H2 : SP.bind (SP.body k d 11 l4 ns) (fun nk l5 => SP.ret (ns.length, nk.1, nk.2) (SP.tl l5)) = some r := H.out; obtain ⟨rb, hb⟩ := bind_none H2; rw [hb] at H2; replace H := Aside0.mk H2; replace hb := Aside0.mk hb; have hln := Aside0.mk (show ns.length + l4.length ≤ 1073741824 from by have := HL.out; omega); clear H2 hl4 HL; have p := Z.out; replace y := y.f1 e (by omega); replace c := c.b1 e (by omega); replace b := b.b1 e (by omega); replace x := x.q1 e (fun k hk => by omega); clear p; replace Z := Z.k e; clear o e; clear i j s; have i := c.c1; have j := b.e6; have s : g3 ≠ g1 ∧ g1 ≠ g3 := (by have p := Z.out; omega))
        | ((with_reducible refine gate_dst (N := 30) rfl ?_); (try (refine gate_guard (by rfl) ?_; dsimp only)); apply goE 30 Try.func20 (ihb B pb g3 d 11 (l4) ns (fun k => ((w.heap.size ≤ k ∧ k ≠ g3) ∧ k < U.heap.size)) rb _ va vb vc (.int .i64 (ns.length : Int)) AN cN hb.out m.out (by have p := Z.out; omega) b.out (Q_mono' x.out (fun k q V => ⟨q, V⟩)) (fun k (hk : ((w.heap.size ≤ k ∧ k ≠ g3) ∧ k < U.heap.size)) => (show B ≤ k ∧ k ≠ g3 from by have p := Z.out; omega)) hln.out (by decide)); rintro R b8 G; rcases rb with x_ | ⟨nk, l5⟩; (obtain ⟨rfl, e, _⟩ := G; obtain rfl : r = Except.error x_ := (Option.some.inj H.out).symm; exact Or.inr ⟨_, rfl, rfl, rfl, y.out.then_ e (fun k (hk : (k = pb ∨ k = g3 ∨ ((w.heap.size ≤ k ∧ k ≠ g3) ∧ k < U.heap.size))) => (show (k = pb ∨ k = g3) ∨ w.heap.size ≤ k from by have p := Z.out; omega))⟩); obtain ⟨rfl, ⟨An2, cn2, Ak2, ck2, hb1_, J, A⟩, o, e⟩ := G; obtain rfl : r = Except.ok ((ns.length, nk.1, nk.2), SP.tl l5) := (Option.some.inj H.out).symm; refine Or.inl ⟨_, rfl, ?_⟩; replace m := Aside0.mk o; clear x; have x := Aside0.mk (Q_mono' (T := fun k => (w.heap.size ≤ k ∧ k ≠ g3)) J (fun k q _ => (show (w.heap.size ≤ k ∧ k ≠ g3) from ⟨q.1.elim (fun h => h.1.1) (fun h => by have p := Z.out; omega), q.2⟩))); have P := Aside0.mk (Q_mono' (T := fun k => (w.heap.size ≤ k ∧ k ≠ g3)) A (fun k q _ => (show (w.heap.size ≤ k ∧ k ≠ g3) from ⟨(by have p := Z.out; have := q.1; omega), q.2⟩))); have p := Z.out; replace y := Aside0.mk (y.out.then_ e (fun k (hk : (k = pb ∨ k = g3 ∨ ((w.heap.size ≤ k ∧ k ≠ g3) ∧ k < U.heap.size))) => (show (k = pb ∨ k = g3) ∨ w.heap.size ≤ k from by omega))); replace c := Aside0.mk (e.blk c.out (show ¬ ((g1 = pb ∨ g1 = g3 ∨ ((w.heap.size ≤ g1 ∧ g1 ≠ g3) ∧ g1 < U.heap.size))) from by omega)); clear p; replace Z := Z.k e; replace b := Aside0.mk hb1_; clear o e J A hb1_; obtain ⟨u5, l6, rfl⟩ := body_rest hb.out; clear i j s; have i := c.c1; have j := b.e6; have s : g3 ≠ g1 ∧ g1 ≠ g3 := (by have p := Z.out; omega))
        | ((with_reducible refine gate_dst (N := 32) rfl ?_); apply takeE 32 m; intro b9 o e; replace m := Aside0.mk o; clear o; have p := Z.out; replace y := y.f1 e (by omega); replace c := c.b1 e (by omega); replace b := b.b1 e (by omega); replace x := x.q1 e (fun k hk => by omega); replace P := P.q1 e (fun k hk => by omega); clear p; replace Z := Z.k e; clear e; clear i j s; have i := c.c1; have j := b.e6; have s : g3 ≠ g1 ∧ g1 ≠ g3 := (by have p := Z.out; omega)))
       refine bodyPost_end (results_none rfl _ _ _) rfl ?_
       exact ⟨rfl, ⟨_, _, _, _, b.out, x.out, P.out⟩, m.out, y.out⟩
theorem tree_block.poor {B pb : Nat} {t : S28} {l1 : List S28} {d : Int} (w : World) (h : PS B w pb (t :: l1) d) (hd : (d == 40) = true) :
  Calls Try.prog 83 #[.pointer (some ⟨pb, 0, none⟩)] w (Ans (.error (t.f2, 3)) B pb d w (fun x v w' => NV (fun q => w.heap.size ≤ q) w' x v)) := by
 have hu36 := Try.underlying36
 have hmf : ∀ (fn : Fn) (first cap : Array Value) (w : World), (Instr.makeFunc fn first cap).run Try.prog w = .ok (.func fn first cap) w := fun _ _ _ _ => rfl
 have I := Aside0.mk (Fr.refl (fun k => k = pb) w)
 have j := Aside0.mk h
 have Z := Aside0.mk (And.intro j.out.1 (And.intro j.out.2.1 (Nat.le_refl w.heap.size)))
 clear h
 go_enter Try.func83, Try.ntmps83
 go_wp2_with (first
  | ((with_reducible refine gate_dst (N := 1) rfl ?_); apply boxE 1 #[.pointer (some ⟨pb, 0, none⟩)] 45; intro u C c m p; replace I := I.f0 m; replace j := j.p0 m; replace Z := Z.a p; clear p m; have b := c.c1)
  | ((with_reducible refine gate_dst (N := 2) rfl ?_); apply boxE 2 #[.int .i64 0, .string ⟨#[]⟩, .int .i64 0, .int .i64 0, .slice none 0 0, .slice none 0 0] 36; intro n E l m p; replace I := I.f0 m; replace j := j.p0 m; replace c := c.b0 m; replace Z := Z.a p; clear p m; clear b; have b := c.c1; have e := l.e6; have r : n ≠ u ∧ u ≠ n := (by have V := Z.out; omega); clear b e r; have b := c.c1; have e := l.e6; have r : n ≠ u ∧ u ≠ n := (by have V := Z.out; omega); obtain ⟨X, F, U⟩ := j.out.blk_; have i := Aside0.mk U; clear U; clear b e r; have b := c.c1; have e := l.e6; have o := i.c2; have r : n ≠ u ∧ u ≠ n ∧ n ≠ pb ∧ pb ≠ n := (by have V := Z.out; omega); obtain ⟨J, M, y, z, A⟩ := j.out.cells_ i.out; have O : (0 : Int) < ((t :: l1).length : Int) := (by simp only [List.length_cons]; omega))
  | ((with_reducible refine gate_dst (N := 3) rfl ?_); apply boxE 3 #[.int .i64 0, .string ⟨#[]⟩, .int .i64 0, .int .i64 0, .slice none 0 0, .slice none 0 0] 36; intro D H s m p; replace I := I.f0 m; replace j := j.p0 m; replace c := c.b0 m; replace l := l.b0 m; replace i := i.b0 m; replace Z := Z.a p; clear p m; clear b e o r y z A O J M; have b := c.c1; have e := l.e6; have o := i.c2; have G := s.e6; have r : D ≠ u ∧ u ≠ D ∧ D ≠ n ∧ n ≠ D ∧ D ≠ pb ∧ pb ≠ D ∧ n ≠ u ∧ u ≠ n ∧ n ≠ pb ∧ pb ≠ n := (by have V := Z.out; omega); obtain ⟨J, M, y, z, A⟩ := j.out.cells_ i.out; have O : (0 : Int) < ((t :: l1).length : Int) := (by simp only [List.length_cons]; omega))
  | ((with_reducible refine gate_dst (N := 14) rfl ?_); (try (refine gate_guard (by rfl) ?_; dsimp only)); have Y := s.s6 (.int .i64 10) (.string ⟨#[]⟩) (.int .i64 t.f2) (.int .i64 0) (.slice none 0 0) (.slice none 0 0); clear s; obtain ⟨K, W, m, s⟩ := Y; rw [W]; clear W; have V := Z.out; replace I := I.f1 m (by omega); replace j := j.p1 m (by omega); replace c := c.b1 m (by omega); replace l := l.b1 m (by omega); replace i := i.b1 m (by omega); clear V; replace Z := Z.k m; clear m; clear b e o G r y z A O J M; have b := c.c1; have e := l.e6; have o := i.c2; have G := s.e6; have r : D ≠ u ∧ u ≠ D ∧ D ≠ n ∧ n ≠ D ∧ D ≠ pb ∧ pb ≠ D ∧ n ≠ u ∧ u ≠ n ∧ n ≠ pb ∧ pb ≠ n := (by have V := Z.out; omega); obtain ⟨J, M, y, z, A⟩ := j.out.cells_ i.out; have O : (0 : Int) < ((t :: l1).length : Int) := (by simp only [List.length_cons]; omega); clear i; apply goE 14 Try.func62 (tree_within.poor _ 87 _ _ j.out hd); rintro L w_ ⟨rfl, m⟩; exact Or.inr ⟨_, rfl, rfl, rfl, I.out.then_ m (fun k hk => .inl hk)⟩))
theorem tree_block.good {k : Nat} (ihb : CBody k) (hk : k ≤ 1073741824) {B pb : Nat} {t : S28} {l1 : List S28} {d : Int} {r : Except (Int × Int) (SP.Nd × List S28)} {rc : Except (Int × Int) ((Nat × List ByteArray × List SP.Nd) × List S28)} (w : World) (h : PS B w pb (t :: l1) d) (hd : (d == 40) = false) (hc : SP.bind (SP.args k (SP.tl (t :: l1)) []) (fun ns l3 => blkS2 k (d + 1) ns l3) = some rc) (H : Aside0 (SP.bind (some rc) (fun a l5 => SP.ret (SP.Nd.mk 10 SP.E t.f2 (a.1 : Int) a.2.1 a.2.2) l5) = some r)) :
  Calls Try.prog 83 #[.pointer (some ⟨pb, 0, none⟩)] w (Ans r B pb d w (fun x v w' => NV (fun q => w.heap.size ≤ q) w' x v)) := by
 have hu36 := Try.underlying36
 have hmf : ∀ (fn : Fn) (first cap : Array Value) (w : World), (Instr.makeFunc fn first cap).run Try.prog w = .ok (.func fn first cap) w := fun _ _ _ _ => rfl
 have O := Aside0.mk (Fr.refl (fun k => k = pb) w)
 have n := Aside0.mk h
 have Z := Aside0.mk (And.intro n.out.1 (And.intro n.out.2.1 (Nat.le_refl w.heap.size)))
 clear h
 go_enter Try.func83, Try.ntmps83
 go_wp2_with (first
  | ((with_reducible refine gate_dst (N := 1) rfl ?_); apply boxE 1 #[.pointer (some ⟨pb, 0, none⟩)] 45; intro u v1 b m G; replace O := O.f0 m; replace n := n.p0 m; replace Z := Z.a G; clear G m; have c := b.c1)
  | ((with_reducible refine gate_dst (N := 2) rfl ?_); apply boxE 2 #[.int .i64 0, .string ⟨#[]⟩, .int .i64 0, .int .i64 0, .slice none 0 0, .slice none 0 0] 36; intro s v2 i m G; replace O := O.f0 m; replace n := n.p0 m; replace b := b.b0 m; replace Z := Z.a G; clear G m; clear c; have c := b.c1; have j := i.e6; have z : s ≠ u ∧ u ≠ s := (by have A := Z.out; omega); clear c j z; have c := b.c1; have j := i.e6; have z : s ≠ u ∧ u ≠ s := (by have A := Z.out; omega); obtain ⟨a5, cP, F⟩ := n.out.blk_; have o := Aside0.mk F; clear F; clear c j z; have c := b.c1; have j := i.e6; have D := o.c2; have z : s ≠ u ∧ u ≠ s ∧ s ≠ pb ∧ pb ≠ s := (by have A := Z.out; omega); obtain ⟨V, W, I, J, M⟩ := n.out.cells_ o.out; have Y : (0 : Int) < ((t :: l1).length : Int) := (by simp only [List.length_cons]; omega))
  | ((with_reducible refine gate_dst (N := 3) rfl ?_); apply boxE 3 #[.int .i64 0, .string ⟨#[]⟩, .int .i64 0, .int .i64 0, .slice none 0 0, .slice none 0 0] 36; intro l v3 p m G; replace O := O.f0 m; replace n := n.p0 m; replace b := b.b0 m; replace i := i.b0 m; replace o := o.b0 m; replace Z := Z.a G; clear G m; clear c j D z I J M Y V W; have c := b.c1; have j := i.e6; have D := o.c2; have y := p.e6; have z : l ≠ u ∧ u ≠ l ∧ l ≠ s ∧ s ≠ l ∧ l ≠ pb ∧ pb ≠ l ∧ s ≠ u ∧ u ≠ s ∧ s ≠ pb ∧ pb ≠ s := (by have A := Z.out; omega); obtain ⟨V, W, I, J, M⟩ := n.out.cells_ o.out; have Y : (0 : Int) < ((t :: l1).length : Int) := (by simp only [List.length_cons]; omega))
  | ((with_reducible refine gate_dst (N := 14) rfl ?_); (try (refine gate_guard (by rfl) ?_; dsimp only)); have S := p.s6 (.int .i64 10) (.string ⟨#[]⟩) (.int .i64 t.f2) (.int .i64 0) (.slice none 0 0) (.slice none 0 0); clear p; obtain ⟨U, X, m, p⟩ := S; rw [X]; clear X; have A := Z.out; replace O := O.f1 m (by omega); replace n := n.p1 m (by omega); replace b := b.b1 m (by omega); replace i := i.b1 m (by omega); replace o := o.b1 m (by omega); clear A; replace Z := Z.k m; clear m; clear c j D y z I J M Y V W; have c := b.c1; have j := i.e6; have D := o.c2; have y := p.e6; have z : l ≠ u ∧ u ≠ l ∧ l ≠ s ∧ s ≠ l ∧ l ≠ pb ∧ pb ≠ l ∧ s ≠ u ∧ u ≠ s ∧ s ≠ pb ∧ pb ≠ s := (by have A := Z.out; omega); obtain ⟨V, W, I, J, M⟩ := n.out.cells_ o.out; have Y : (0 : Int) < ((t :: l1).length : Int) := (by simp only [List.length_cons]; omega); clear o; refine goesP_ (some 14) rfl rfl Try.func62 (by kernel_rfl) rfl #[.pointer (some ⟨pb, 0, none⟩), .func (.func 87) #[] #[.pointer (some ⟨u, 0, none⟩), .pointer (some ⟨l, 0, none⟩)]] rfl (by (try simp only [List.map_toArray, List.map_cons, List.map_nil]); first | done | rfl) ?_; have K : ∀ w2, PS B w2 pb (SP.tl (t :: l1)) (d + 1) → Fr (fun k => k = pb) U w2 → Calls Try.prog 87 #[.pointer (some ⟨u, 0, none⟩), .pointer (some ⟨l, 0, none⟩)] w2 (AnsC rc B pb (d + 1) (fun k => k = pb ∨ k = l) w2 (fun (a : Nat × List ByteArray × List SP.Nd) (w_ : World) => NB l (fun k => U.heap.size ≤ k ∧ k ≠ l) (fun k => U.heap.size ≤ k ∧ k ≠ l) (.int .i64 10) (.string ⟨#[]⟩) (.int .i64 t.f2) (.int .i64 (a.1 : Int)) a.2.1 a.2.2 w_)) := (fun w2 hps2 hf2 => (tree_block1.calls ihb hk w2 _ _ _ _ hps2 (hf2.blk b.out (show ¬ (u = pb) from by have A := Z.out; omega)) (hf2.blk p.out (show ¬ (l = pb) from by have A := Z.out; omega)) (by have A := Z.out; omega) (by have A := Z.out; omega) (by have A := Z.out; omega) hc).mono (fun e w' h_ => h_.imp (fun a w' _ a1 => NB.mono a1 (fun k C a2 => (show _ ∧ _ from ⟨Nat.le_trans hf2.size C.1, C.2⟩)) (fun k C a2 => (show _ ∧ _ from ⟨Nat.le_trans hf2.size C.1, C.2⟩))))); have L : ∀ a w1 w2, (fun (a : Nat × List ByteArray × List SP.Nd) (w_ : World) => NB l (fun k => U.heap.size ≤ k ∧ k ≠ l) (fun k => U.heap.size ≤ k ∧ k ≠ l) (.int .i64 10) (.string ⟨#[]⟩) (.int .i64 t.f2) (.int .i64 (a.1 : Int)) a.2.1 a.2.2 w_) a w1 → Fr (fun k => k = pb) w1 w2 → (fun (a : Nat × List ByteArray × List SP.Nd) (w_ : World) => NB l (fun k => U.heap.size ≤ k ∧ k ≠ l) (fun k => U.heap.size ≤ k ∧ k ≠ l) (.int .i64 10) (.string ⟨#[]⟩) (.int .i64 t.f2) (.int .i64 (a.1 : Int)) a.2.1 a.2.2 w_) a w2 := (fun a_ w1_ w2_ h_ a3 => NB.fr h_ a3 (show ¬ (l = pb) from by have A := Z.out; omega) (fun k hk => (show ¬ (k = pb) from by have A := Z.out; have a4 : U.heap.size ≤ k ∧ k ≠ l := hk; omega)) (fun k hk => (show ¬ (k = pb) from by have A := Z.out; have a4 : U.heap.size ≤ k ∧ k ≠ l := hk; omega))); refine (tree_within.good _ 87 Try.func87 (by kernel_rfl) rfl #[] #[.pointer (some ⟨u, 0, none⟩), .pointer (some ⟨l, 0, none⟩)] #[.pointer (some ⟨u, 0, none⟩), .pointer (some ⟨l, 0, none⟩)] (by simp) (fun k => k = pb ∨ k = l) (fun k hk => .inl hk) (fun (a : Nat × List ByteArray × List SP.Nd) (w_ : World) => NB l (fun k => U.heap.size ≤ k ∧ k ≠ l) (fun k => U.heap.size ≤ k ∧ k ≠ l) (.int .i64 10) (.string ⟨#[]⟩) (.int .i64 t.f2) (.int .i64 (a.1 : Int)) a.2.1 a.2.2 w_) L rc K n.out hd).mono ?_; clear L K; rintro e_ v5 T; rcases rc with x_ | ⟨a, l2⟩; (obtain ⟨rfl, m⟩ := T; obtain rfl : r = Except.error x_ := (Option.some.inj H.out).symm; exact Or.inr ⟨_, rfl, rfl, rfl, O.out.then_ m (fun k (hk : k = pb ∨ k = l) => (show k = pb ∨ w.heap.size ≤ k from by have A := Z.out; omega))⟩); obtain ⟨rfl, ⟨An2, cn2, Ak2, ck2, a0, P, Q⟩, R, m⟩ := T; obtain rfl : r = Except.ok (SP.Nd.mk 10 ⟨#[]⟩ t.f2 (a.1 : Int) a.2.1 a.2.2, l2) := (Option.some.inj H.out).symm; refine Or.inl ⟨_, rfl, ?_⟩; replace n := Aside0.mk R; replace p := Aside0.mk a0; have QN := Aside0.mk P; have QK := Aside0.mk Q; have A := Z.out; replace O := Aside0.mk (O.out.then_ m (fun k (hk : (k = pb ∨ k = l)) => (show (k = pb) ∨ w.heap.size ≤ k from by omega))); replace b := Aside0.mk (m.blk b.out (show ¬ ((u = pb ∨ u = l)) from by omega)); replace i := Aside0.mk (m.blk i.out (show ¬ ((s = pb ∨ s = l)) from by omega)); clear A; replace Z := Z.k m; clear R a0 P Q m; clear c j D y z I J M Y V W; have c := b.c1; have j := i.e6; have y := p.e6; have z : l ≠ u ∧ u ≠ l ∧ l ≠ s ∧ s ≠ l ∧ s ≠ u ∧ u ≠ s := (by have A := Z.out; omega)))
 have S := i.s6 (.int .i64 10) (.string ⟨#[]⟩) (.int .i64 t.f2) (.int .i64 (a.1 : Int)) (.slice An2 a.2.1.length cn2) (.slice Ak2 a.2.2.length ck2)
 clear i
 obtain ⟨v6, X, m, i⟩ := S
 rw [X]
 clear X
 have A := Z.out
 replace O := O.f1 m (by omega)
 replace n := n.p1 m (by omega)
 replace b := b.b1 m (by omega)
 replace p := p.b1 m (by omega)
 replace QN := QN.q1 m (fun k hk => by omega)
 replace QK := QK.q1 m (fun k hk => by omega)
 clear A
 replace Z := Z.k m
 clear m
 clear c j y z
 have c := b.c1
 have j := i.e6
 have y := p.e6
 have z : l ≠ u ∧ u ≠ l ∧ l ≠ s ∧ s ≠ l ∧ s ≠ u ∧ u ≠ s := (by have A := Z.out; omega)
 refine bodyPost_ret (results_c rfl _ _ s 36 _ (0, 0) _ rfl i.out hu36 rfl rfl) rfl ?_
 exact ⟨_, rfl, ⟨_, _, rfl, Q_mono' QN.out (fun k h1 h2 => (show w.heap.size ≤ k from by have A := Z.out; have h3 : U.heap.size ≤ k ∧ k ≠ l := h1; omega)), Q_mono' QK.out (fun k h1 h2 => (show w.heap.size ≤ k from by have A := Z.out; have h3 : U.heap.size ≤ k ∧ k ≠ l := h1; omega))⟩, n.out, O.out⟩
omit [Low] in
theorem block_eq (k : Nat) (d : Int) (t : S28) (l : List S28) : (SP.bind (SP.args k l []) fun ns l3 => SP.bind (if ns ≠ [] ∧ SP.hk l3 ≠ 11 then SP.bind (SP.need 12 l3) fun _ l4 => SP.ret () l4 else SP.ret () l3) fun _ l4 => SP.bind (SP.body k d 11 l4 ns) fun nk l5 => SP.ret (SP.Nd.mk 10 SP.E t.f2 ns.length nk.1 nk.2) (SP.tl l5))
  = SP.bind (SP.bind (SP.args k l []) (fun ns l3 => blkS2 k d ns l3)) (fun a l5 => SP.ret (SP.Nd.mk 10 SP.E t.f2 (a.1 : Int) a.2.1 a.2.2) l5) := by
 rw [bind_assoc]
 congr 1
 funext ns l3
 unfold blkS2
 rw [bind_assoc]
 congr 1
 funext x l4
 rw [bind_assoc]
 rfl
theorem tree_block.step {k : Nat} (ihb : CBody k) (hk : k ≤ 1073741824) : CN 83 SP.block (k + 1) := by
 intro B pb d l r w hr h
 unfold SP.block at hr
 cases l with
 | nil => simp [SP.top] at hr
 | cons t l =>
  simp only [SP.top] at hr
  unfold SP.within at hr
  by_cases hd : d = 40
  ·rw [if_pos hd] at hr
   simp only [SP.bad, SP.top, Option.some.injEq] at hr
   subst hr
   exact tree_block.poor w h (bt_ hd)
  ·rw [if_neg hd] at hr
   simp only at hr
   rw [block_eq k (d + 1) t (SP.tl (t :: l))] at hr
   obtain ⟨rc, hc⟩ := bind_none hr
   rw [hc] at hr
   exact tree_block.good ihb hk w h (bf_ hd) hc ⟨hr⟩
end Go.Proofs.Ytpodpmjlkbbkoaa.P
