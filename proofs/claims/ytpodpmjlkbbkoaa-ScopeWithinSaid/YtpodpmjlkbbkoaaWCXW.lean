import Derived.Test.YtpodpmjlkbbkoaaWCLW
import Derived.Test.YtpodpmjlkbbkoaaWCTA
set_option linter.all false
set_option maxHeartbeats 16000000
set_option maxRecDepth 100000
namespace Go.Proofs.Ytpodpmjlkbbkoaa.P
open Go.RowKit Go.Proofs.YtpodpmjlkbbkoaaW.PrintWords Go.Proofs.YtpodpmjlkbbkoaaW.PrintLast Go.Proofs.YtpodpmjlkbbkoaaW.PrintMore
attribute [local go_sem high] eqA29
def RsB (us : List SP.Use) (p y : Int) (ok : Bool) (w : World) (e : Ending) (w' : World) : Prop := ∃ A c, e = .returned (.tuple #[.slice A us.length c, .int .i64 p, .int .i64 y, .bool ok]) ∧ kUse.R 29 w' 0 (fun k => w.heap.size ≤ k) (.slice A us.length c) us ∧ Below w.heap.size w w'
def KnownC : Prop := ∀ w, Calls Try.prog 7 #[] w fun e w' => e = .returned (.bool true) ∧ Below w.heap.size w w'
theorem use_at {w : World} {S : Nat → Prop} {A : Option Addr} {n c : Nat} {us : List SP.Use} (h : kUse.R 29 w 0 S (.slice A n c) us) (i : Nat) (u : SP.Use) (hi : us[i]? = some u) :
  ∃ ad, A = some ad ∧ w.cell? (ad.add (i * 6)) = some (.int .i64 u.place) ∧ w.cell? ⟨(ad.add (i * 6)).block, (ad.add (i * 6)).off + 1, none⟩ = some (.string u.name) ∧ w.cell? ⟨(ad.add (i * 6)).block, (ad.add (i * 6)).off + 2, none⟩ = some (.int .i64 u.kind) ∧ w.cell? ⟨(ad.add (i * 6)).block, (ad.add (i * 6)).off + 3, none⟩ = some (.int .i64 u.depth) ∧ w.cell? ⟨(ad.add (i * 6)).block, (ad.add (i * 6)).off + 4, none⟩ = some (.int .i64 u.index) ∧ w.cell? ⟨(ad.add (i * 6)).block, (ad.add (i * 6)).off + 5, none⟩ = some (.bool u.write) := by
 have hlt := (List.getElem?_eq_some_iff.1 hi).1
 have hg := (List.getElem?_eq_some_iff.1 hi).2
 obtain ⟨h1, h2, hC⟩ := Kd.R_reads' h
 obtain ⟨ad, cc, e, _, hK, hc0⟩ := Kd.C_get hC u (i : Int) (by omega) (by omega)
 have hz : kUse.sz = 6 := rfl
 rw [Int.toNat_natCast] at hK
 rw [List.getD_eq_getElem?_getD, hi] at hK
 have hcc := kUse_K hK
 subst hcc
 have hc : ∀ j v, [Value.int .i64 u.place, .string u.name, .int .i64 u.kind, .int .i64 u.depth, .int .i64 u.index, .bool u.write][j]? = some v → w.cell? (ad.add (i * 6 + j)) = some v := fun j v hv => by
  have := hc0 j v hv
  rw [Int.toNat_natCast, hz] at this
  exact this
 exact ⟨ad, e, hc 0 _ rfl, by rw [← add_field _ _ 1 (by omega)]; exact hc 1 _ rfl, by rw [← add_field _ _ 2 (by omega)]; exact hc 2 _ rfl, by rw [← add_field _ _ 3 (by omega)]; exact hc 3 _ rfl, by rw [← add_field _ _ 4 (by omega)]; exact hc 4 _ rfl, by rw [← add_field _ _ 5 (by omega)]; exact hc 5 _ rfl⟩
theorem law_within.skip {s : ByteArray} {slots : List ByteArray} {x : SP.Nd} {p y p1 y1 : Int} {us : List SP.Use} {ok1 : Bool} {As : Option Addr} {cs : Nat} (w : World) (h10 : ∀ w, Calls Try.prog 10 #[.string s] w (NodeA x p y w)) (h6 : (∀ w As cs, SL (fun k => k < w.heap.size) w As cs slots → Calls Try.prog 6 #[.string s, .bool false, .slice As slots.length cs] w (RsB us p1 y1 ok1 w))) (hk7 : KnownC) (hs : SL (fun k => k < w.heap.size) w As cs slots) (hc : ok1 = false ∨ ok1 = true ∧ (y1 != 0) = true ∨ ok1 = true ∧ (y1 != 0) = false ∧ decide (0 < x.names.length) = true ∨ ok1 = true ∧ (y1 != 0) = false ∧ decide (0 < x.names.length) = false ∧ decide ((3000 : Int) < (s.size : Int)) = true) : Calls Try.prog 4 #[.string s, .slice As slots.length cs] w fun e w' => e = .returned (.bool true) ∧ Below w.heap.size w w' := by
 have hu36 := Try.underlying36
 have hu29 := Try.underlying29
 have j := Aside0.mk (Fr.refl (fun k => w.heap.size ≤ k) w)
 have o := Aside0.mk hs
 have Z := Aside0.mk (Nat.le_refl w.heap.size)
 clear hs
 go_enter Try.func4, Try.ntmps4
 rcases hc with rfl | ⟨rfl, c1⟩ | ⟨rfl, c1, c2⟩ | ⟨rfl, c1, c2, c3⟩
 all_goals (
  go_wp2_with (first
   | ((with_reducible refine gate_dst (N := 21) rfl ?_); apply goE 21 Try.func6 (h6 w As cs (SL.mono o.out (fun k (hk : k < w.heap.size) _ => (show k < w.heap.size from by have A := Z.out; omega)))); rintro B t ⟨Aa, ca, rfl, hu_, c⟩; refine Or.inl ⟨_, rfl, ?_⟩; have b : Fr (fun _ => False) w t := Fr.of_below c; replace j := j.f0 b; replace o := o.l0 b; replace Z := Z.k b; have i := Aside0.mk (R_mono' (T := fun k => w.heap.size ≤ k ∧ k < t.heap.size) hu_ (fun k u v => ⟨u, v⟩)); clear b hu_ c)
   | ((with_reducible refine gate_dst (N := 28) rfl ?_); apply goE 28 Try.func10 (h10 t); rintro B G ⟨v_, rfl, ⟨nvn, kvn, rfl, l⟩, c⟩; refine Or.inl ⟨_, rfl, ?_⟩; obtain ⟨Ann, cnn, rfl, _⟩ := Kd.Q_slice l.1; obtain ⟨Akn, ckn, rfl, _⟩ := Kd.Q_slice l.2; have b : Fr (fun _ => False) t G := Fr.of_below c; replace j := j.f0 b; replace o := o.l0 b; replace i := i.r0 b; replace Z := Z.k b; clear b l c)
   | ((with_reducible refine gate_dst (N := 9) rfl ?_); apply boxE 9 #[.int .i64 0, .string ⟨#[]⟩, .int .i64 0, .int .i64 0, .slice none 0 0, .slice none 0 0] 36; intro J M d b q; replace j := j.f0 b; replace o := o.l0 b; replace i := i.r0 b; replace Z := Z.a q; clear q b; have m := d.e6)
   | ((with_reducible refine gate_dst (N := 49) rfl ?_); have z := d.s6 (.int .i64 x.kind) (.string x.text) (.int .i64 x.place) (.int .i64 x.n) (.slice Ann x.names.length cnn) (.slice Akn x.kids.length ckn); clear d; obtain ⟨D, r, b, d⟩ := z; rw [r]; clear r; have A := Z.out; replace j := j.f1 b (by omega); replace o := o.l1 b (fun k hk => by omega); replace i := i.r1 b (fun k hk => by omega); clear A; replace Z := Z.k b; clear b; clear m; have m := d.e6; apply goE 49 Try.func7 (hk7 D); rintro B I ⟨rfl, c⟩; refine Or.inl ⟨_, rfl, ?_⟩; have b : Fr (fun _ => False) D I := Fr.of_below c; have j := j.f0 b; clear b c))
  go_ret
  exact ⟨rfl, j.out.below (Below.refl _ _) (fun k h => h) (Nat.le_refl _)⟩)
theorem law_within.gone {s : ByteArray} {slots : List ByteArray} {x : SP.Nd} {p y p1 y1 : Int} {us : List SP.Use} {us2 : List SP.Use} {p2 y2 : Int} {ok2 : Bool} {As : Option Addr} {cs : Nat} (w : World) (h10 : ∀ w, Calls Try.prog 10 #[.string s] w (NodeA x p y w)) (h6 : (∀ w As cs, SL (fun k => k < w.heap.size) w As cs slots → Calls Try.prog 6 #[.string s, .bool false, .slice As slots.length cs] w (RsB us p1 y1 true w))) (h6b : (∀ w As cs, SL (fun k => k < w.heap.size) w As cs slots → Calls Try.prog 6 #[.string (⟨#[91]⟩ ++ s ++ ⟨#[93]⟩), .bool false, .slice As slots.length cs] w (RsB us2 p2 y2 ok2 w))) (hk7 : KnownC) (hs : SL (fun k => k < w.heap.size) w As cs slots) (c1 : (y1 != 0) = false) (c2 : decide (0 < x.names.length) = false) (c3 : decide ((3000 : Int) < (s.size : Int)) = false) (c4 : ok2 = false) : Calls Try.prog 4 #[.string s, .slice As slots.length cs] w fun e w' => e = .returned (.bool true) ∧ Below w.heap.size w w' := by
 subst c4
 have hu36 := Try.underlying36
 have hu29 := Try.underlying29
 have l := Aside0.mk (Fr.refl (fun k => w.heap.size ≤ k) w)
 have m := Aside0.mk hs
 have Z := Aside0.mk (Nat.le_refl w.heap.size)
 clear hs
 have q0_ : s.size ≤ 3000 := by have h_ := of_decide_eq_false c3; omega
 have q1 : 1 + s.size ≤ 9223372036854775807 := by omega
 have q2 : 1 + s.size + 1 ≤ 9223372036854775807 := by omega
 clear q0_
 go_enter Try.func4, Try.ntmps4
 go_wp2_with (first
  | ((with_reducible refine gate_dst (N := 21) rfl ?_); apply goE 21 Try.func6 (h6 w As cs (SL.mono m.out (fun k (hk : k < w.heap.size) _ => (show k < w.heap.size from by have B := Z.out; omega)))); rintro D v ⟨Aa, ca, rfl, hu_, d⟩; refine Or.inl ⟨_, rfl, ?_⟩; have b : Fr (fun _ => False) w v := Fr.of_below d; replace l := l.f0 b; replace m := m.l0 b; replace Z := Z.k b; have j := Aside0.mk (R_mono' (T := fun k => w.heap.size ≤ k ∧ k < v.heap.size) hu_ (fun k q r => ⟨q, r⟩)); clear b hu_ d)
  | ((with_reducible refine gate_dst (N := 28) rfl ?_); apply goE 28 Try.func10 (h10 v); rintro D I ⟨v_, rfl, ⟨nvn, kvn, rfl, o⟩, d⟩; refine Or.inl ⟨_, rfl, ?_⟩; obtain ⟨Ann, cnn, rfl, _⟩ := Kd.Q_slice o.1; obtain ⟨Akn, ckn, rfl, _⟩ := Kd.Q_slice o.2; have b : Fr (fun _ => False) v I := Fr.of_below d; replace l := l.f0 b; replace m := m.l0 b; replace j := j.r0 b; replace Z := Z.k b; clear b o d)
  | ((with_reducible refine gate_dst (N := 9) rfl ?_); apply boxE 9 #[.int .i64 0, .string ⟨#[]⟩, .int .i64 0, .int .i64 0, .slice none 0 0, .slice none 0 0] 36; intro O U c b t; replace l := l.f0 b; replace m := m.l0 b; replace j := j.r0 b; replace Z := Z.a t; clear t b; have i := c.e6)
  | ((with_reducible refine gate_dst (N := 55) rfl ?_); have G := c.s6 (.int .i64 x.kind) (.string x.text) (.int .i64 x.place) (.int .i64 x.n) (.slice Ann x.names.length cnn) (.slice Akn x.kids.length ckn); clear c; obtain ⟨z, u, b, c⟩ := G; rw [u]; clear u; have B := Z.out; replace l := l.f1 b (by omega); replace m := m.l1 b (fun k hk => by omega); replace j := j.r1 b (fun k hk => by omega); clear B; replace Z := Z.k b; clear b; clear i; have i := c.e6; apply goE 55 Try.func6 (h6b z As cs (SL.mono m.out (fun k (hk : k < w.heap.size) _ => (show k < z.heap.size from by have B := Z.out; omega)))); rintro D A ⟨Ab, cb, rfl, hu_, d⟩; refine Or.inl ⟨_, rfl, ?_⟩; have b : Fr (fun _ => False) z A := Fr.of_below d; replace l := l.f0 b; replace m := m.l0 b; replace j := j.r0 b; replace c := c.b0 b; replace Z := Z.k b; have J := Aside0.mk (R_mono' (T := fun k => z.heap.size ≤ k ∧ k < A.heap.size) hu_ (fun k q r => ⟨q, r⟩)); clear b hu_ d; clear i; have i := c.e6)
  | ((with_reducible refine gate_dst (N := 62) rfl ?_); apply goE 62 Try.func7 (hk7 A); rintro D M ⟨rfl, d⟩; refine Or.inl ⟨_, rfl, ?_⟩; have b : Fr (fun _ => False) A M := Fr.of_below d; have l := l.f0 b; clear b d))
 go_ret
 exact ⟨rfl, l.out.below (Below.refl _ _) (fun k h => h) (Nat.le_refl _)⟩
theorem law_within.both {s : ByteArray} {slots : List ByteArray} {x : SP.Nd} {p y p1 y1 : Int} {us : List SP.Use} {us2 : List SP.Use} {p2 y2 : Int} {ok2 : Bool} {As : Option Addr} {cs : Nat} (w : World) (h10 : ∀ w, Calls Try.prog 10 #[.string s] w (NodeA x p y w)) (h6 : (∀ w As cs, SL (fun k => k < w.heap.size) w As cs slots → Calls Try.prog 6 #[.string s, .bool false, .slice As slots.length cs] w (RsB us p1 y1 true w))) (h6b : (∀ w As cs, SL (fun k => k < w.heap.size) w As cs slots → Calls Try.prog 6 #[.string (⟨#[91]⟩ ++ s ++ ⟨#[93]⟩), .bool false, .slice As slots.length cs] w (RsB us2 p2 y2 ok2 w))) (hk7 : KnownC) (hs : SL (fun k => k < w.heap.size) w As cs slots) (c1 : (y1 != 0) = false) (c2 : decide (0 < x.names.length) = false) (c3 : decide ((3000 : Int) < (s.size : Int)) = false) (c4 : ok2 = true) (c5 : (y2 != 0) = false) (hus : us2 = us.map (fun u => { u with place := u.place + 1 })) (hpl : ∀ u, u ∈ us → 0 ≤ u.place ∧ u.place ≤ 1000000) (hul : us.length ≤ 1000000) : Calls Try.prog 4 #[.string s, .slice As slots.length cs] w fun e w' => e = .returned (.bool true) ∧ Below w.heap.size w w' := by
 subst c4
 have hlen : us2.length = us.length := by rw [hus, List.length_map]
 have hne : ((us2.length : Int) != (us.length : Int)) = false := by rw [hlen]; simp
 have H := Aside0.mk hpl
 have HU := Aside0.mk hus
 clear hpl hus
 have hu36 := Try.underlying36
 have hu29 := Try.underlying29
 have o := Aside0.mk (Fr.refl (fun k => w.heap.size ≤ k) w)
 have v := Aside0.mk hs
 have Z := Aside0.mk (Nat.le_refl w.heap.size)
 clear hs
 have q0_ : s.size ≤ 3000 := by have h_ := of_decide_eq_false c3; omega
 have q1 : 1 + s.size ≤ 9223372036854775807 := by omega
 have q2 : 1 + s.size + 1 ≤ 9223372036854775807 := by omega
 clear q0_
 go_enter Try.func4, Try.ntmps4
 go_wp2_with (first
  | ((with_reducible refine gate_dst (N := 21) rfl ?_); apply goE 21 Try.func6 (h6 w As cs (SL.mono v.out (fun k (hk : k < w.heap.size) _ => (show k < w.heap.size from by have G := Z.out; omega)))); rintro W U ⟨Aa, ca, rfl, hu_, q⟩; refine Or.inl ⟨_, rfl, ?_⟩; have b : Fr (fun _ => False) w U := Fr.of_below q; replace o := o.f0 b; replace v := v.l0 b; replace Z := Z.k b; have c := Aside0.mk (R_mono' (T := fun k => w.heap.size ≤ k ∧ k < U.heap.size) hu_ (fun k I J => ⟨I, J⟩)); clear b hu_ q)
  | ((with_reducible refine gate_dst (N := 28) rfl ?_); apply goE 28 Try.func10 (h10 U); rintro W K ⟨v_, rfl, ⟨nvn, kvn, rfl, z⟩, q⟩; refine Or.inl ⟨_, rfl, ?_⟩; obtain ⟨Ann, cnn, rfl, _⟩ := Kd.Q_slice z.1; obtain ⟨Akn, ckn, rfl, _⟩ := Kd.Q_slice z.2; have b : Fr (fun _ => False) U K := Fr.of_below q; replace o := o.f0 b; replace v := v.l0 b; replace c := c.r0 b; replace Z := Z.k b; clear b z q)
  | ((with_reducible refine gate_dst (N := 9) rfl ?_); apply boxE 9 #[.int .i64 0, .string ⟨#[]⟩, .int .i64 0, .int .i64 0, .slice none 0 0, .slice none 0 0] 36; intro P Q j b A; replace o := o.f0 b; replace v := v.l0 b; replace c := c.r0 b; replace Z := Z.a A; clear A b; have r := j.e6)
  | ((with_reducible refine gate_dst (N := 55) rfl ?_); have B := j.s6 (.int .i64 x.kind) (.string x.text) (.int .i64 x.place) (.int .i64 x.n) (.slice Ann x.names.length cnn) (.slice Akn x.kids.length ckn); clear j; obtain ⟨V, t, b, j⟩ := B; rw [t]; clear t; have G := Z.out; replace o := o.f1 b (by omega); replace v := v.l1 b (fun k hk => by omega); replace c := c.r1 b (fun k hk => by omega); clear G; replace Z := Z.k b; clear b; clear r; have r := j.e6; apply goE 55 Try.func6 (h6b V As cs (SL.mono v.out (fun k (hk : k < w.heap.size) _ => (show k < V.heap.size from by have G := Z.out; omega)))); rintro W D ⟨Ab, cb, rfl, hu_, q⟩; refine Or.inl ⟨_, rfl, ?_⟩; have b : Fr (fun _ => False) V D := Fr.of_below q; replace o := o.f0 b; replace v := v.l0 b; replace c := c.r0 b; replace j := j.b0 b; replace Z := Z.k b; have l := Aside0.mk (R_mono' (T := fun k => V.heap.size ≤ k ∧ k < D.heap.size) hu_ (fun k I J => ⟨I, J⟩)); clear b hu_ q; clear r; have r := j.e6))
 have c := Aside0.mk (R_mono' (T := fun k => k < D.heap.size) c.out (fun k _ h => h))
 have l := Aside0.mk (R_mono' (T := fun k => k < D.heap.size) l.out (fun k _ h => h))
 have QA0 := c
 have QB0 := l
 have F0 := o
 go_loopg [16] us.length (fun kq Y w' => ∃ i : Nat, Y = .int .i64 (i : Int) ∧ i + kq = us.length ∧ Aside0 (Fr (fun k => D.heap.size ≤ k) D w'))
 case atStart => exact ⟨0, rfl, by omega, ⟨Fr.refl _ _⟩⟩
 case round =>
  obtain ⟨i, rfl, hi, M⟩ := hrel
  have c := Aside0.mk (M.out.R QA0.out (fun k (hk : k < D.heap.size) (h : D.heap.size ≤ k) => by omega))
  have l := Aside0.mk (M.out.R QB0.out (fun k (hk : k < D.heap.size) (h : D.heap.size ≤ k) => by omega))
  have Z := Aside0.mk (And.intro M.out.size Z.out)
  cases gk with
  | zero =>
   have d1 : decide ((i : Int) < (us.length : Int)) = false := decide_eq_false (by omega)
   have o := Aside0.mk (F0.out.then_ M.out (fun k (hk : D.heap.size ≤ k) => .inl (show w.heap.size ≤ k from by have G := Z.out; omega)))
   go_wp2_with (first
    | ((with_reducible refine gate_dst (N := 92) rfl ?_); apply goE 92 Try.func7 (hk7 wr); rintro W O ⟨rfl, q⟩; refine Or.inl ⟨_, rfl, ?_⟩; have b : Fr (fun _ => False) wr O := Fr.of_below q; have o := o.f0 b; clear b q))
   go_ret
   exact ⟨rfl, o.out.below (Below.refl _ _) (fun k h => h) (Nat.le_refl _)⟩
  | succ k1 =>
   have d1 : decide ((i : Int) < (us.length : Int)) = true := decide_eq_true (by omega)
   have o := M
   have X : i < us.length := by omega
   obtain ⟨u, hu⟩ : ∃ u, us[i]? = some u := ⟨_, List.getElem?_eq_getElem X⟩
   have hu2 : us2[i]? = some { u with place := u.place + 1 } := by rw [HU.out, List.getElem?_map, hu]; rfl
   have hpu := H.out u (List.mem_of_getElem? hu)
   obtain ⟨ad, eA, x0, x1, x2, x3, x4, x5⟩ := use_at c.out i u hu
   obtain ⟨bd, eB, _⟩ := use_at l.out i _ hu2
   subst eA eB
   have HU2 := Aside0.mk hu2
   clear hu hu2
   have hwp : wrap64 (u.place + 1) = u.place + 1 := by unfold wrap64; omega
   go_wp2_with (first
    | ((with_reducible refine gate_dst (N := 17) rfl ?_); apply boxE 17 #[.int .i64 0, .string ⟨#[]⟩, .int .i64 0, .int .i64 0, .int .i64 0, .bool false] 29; intro L C d b A; replace o := o.f0 b; replace c := c.r0 b; replace l := l.r0 b; replace Z := Z.a A; clear A b; have m := d.e6))
   have B := d.s6 (.int .i64 u.place) (.string u.name) (.int .i64 u.kind) (.int .i64 u.depth) (.int .i64 u.index) (.bool u.write)
   clear d
   obtain ⟨E, t, b, d⟩ := B
   rw [t]
   clear t
   have G := Z.out
   replace o := o.f1 b (by omega)
   replace c := c.r1 b (fun k hk => by omega)
   replace l := l.r1 b (fun k hk => by omega)
   clear G
   replace Z := Z.k b
   clear b
   clear m
   have m := d.e6
   have B := d.st 0 (.int .i64 (u.place + 1)) (cs' := #[.int .i64 (u.place + 1), .string u.name, .int .i64 u.kind, .int .i64 u.depth, .int .i64 u.index, .bool u.write]) rfl
   clear d
   obtain ⟨F, t, b, d⟩ := B
   rw [t]
   clear t
   have G := Z.out
   replace o := o.f1 b (by omega)
   replace c := c.r1 b (fun k hk => by omega)
   replace l := l.r1 b (fun k hk => by omega)
   clear G
   replace Z := Z.k b
   clear b
   clear m
   have m := d.e6
   obtain ⟨bd2, eB2, z0, z1, z2, z3, z4, z5⟩ := use_at l.out i _ HU2.out
   obtain rfl := Option.some.inj eB2
   clear eB2
   repeat (go_quiet (fail); try go_wp2)
   go_roundg k1
   case measure => omega
   case rel => exact ⟨i + 1, rfl, by omega, ⟨o.out.drewN nq⟩⟩
end Go.Proofs.Ytpodpmjlkbbkoaa.P
