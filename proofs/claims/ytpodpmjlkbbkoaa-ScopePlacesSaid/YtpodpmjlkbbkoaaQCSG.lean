import Derived.Test.YtpodpmjlkbbkoaaQCSK
import Derived.Test.YtpodpmjlkbbkoaaQCPF
import Derived.Test.YtpodpmjlkbbkoaaQCTA
set_option linter.all false
set_option maxHeartbeats 16000000
set_option maxRecDepth 100000
namespace Go.Proofs.Ytpodpmjlkbbkoaa.P
open Go.RowKit Go.Proofs.YtpodpmjlkbbkoaaW.PrintWords Go.Proofs.YtpodpmjlkbbkoaaW.PrintLast Go.Proofs.YtpodpmjlkbbkoaaW.PrintMore
def PartC (x : SP.Nd) (slots : List ByteArray) : Prop := ∀ (fs : List SP.Fr) (acc : List SP.Use) (rcv : Bool) (wb q : Nat) (fv : Value) (An Ak As : Option Addr) (cn ck cs : Nat) (w : World), q < w.heap.size → q ≠ wb → WSt (fun k => k < w.heap.size ∧ k ≠ wb ∧ k ≠ q) q w wb As cs slots acc → NQ (fun k => k < w.heap.size ∧ k ≠ wb ∧ k ≠ q) w x (.slice An x.names.length cn) (.slice Ak x.kids.length ck) → Frs (fun k => k < w.heap.size ∧ k ≠ wb ∧ k ≠ q) w fv fs → fs.length + SP.cnt x ≤ 1073741824 → acc.length + SP.cnt x ≤ 1073741824 →
  Calls Try.prog 27 #[.pointer (some ⟨wb, 0, none⟩), .agg #[.int .i64 x.kind, .string x.text, .int .i64 x.place, .int .i64 x.n, .slice An x.names.length cn, .slice Ak x.kids.length ck], fv, .bool rcv] w (PartA q wb As cs slots.length (SP.part slots fs rcv acc x) w)
theorem scope_part.rest {x : SP.Nd} {slots : List ByteArray} {fs : List SP.Fr} {acc : List SP.Use} {wb q : Nat} {fv : Value} {rcv : Bool} {An Ak As : Option Addr} {cn ck cs : Nat} (w : World) (hq : q < w.heap.size) (hqw : q ≠ wb) (hw : WSt (fun k => k < w.heap.size ∧ k ≠ wb ∧ k ≠ q) q w wb As cs slots acc) (hx : NQ (fun k => k < w.heap.size ∧ k ≠ wb ∧ k ≠ q) w x (.slice An x.names.length cn) (.slice Ak x.kids.length ck)) (hfs : Frs (fun k => k < w.heap.size ∧ k ≠ wb ∧ k ≠ q) w fv fs) (hl : fs.length ≤ 1073741824) (ha : acc.length < 1099511627776) (hparts : ∀ y, y ∈ x.kids → PartC y slots) (hl1 : fs.length + SP.cnt x ≤ 1073741824) (ha1 : acc.length + SP.cnt x ≤ 1073741824) (h5 : (x.kind == 5) = false) (h6 : (x.kind == 6) = false) (hk : (x.kind == 10) = false) {rr : SP.W} (hrr : Aside0 (SP.parts slots fs (decide (x.kind = 7 ∨ x.kind = 8)) acc x.kids = rr)) : Calls Try.prog 27 #[.pointer (some ⟨wb, 0, none⟩), .agg #[.int .i64 x.kind, .string x.text, .int .i64 x.place, .int .i64 x.n, .slice An x.names.length cn, .slice Ak x.kids.length ck], fv, .bool rcv] w (PartA q wb As cs slots.length rr w) := by
 have hu29 := Try.underlying29
 have hu36 := Try.underlying36
 have z := Aside0.mk (Fr.refl (fun k => k = wb ∨ k = q) w)
 obtain ⟨Al, cl, U, hqs_, hqu_⟩ := hw
 have c := Aside0.mk U
 have G := Aside0.mk hqs_
 have I := Aside0.mk hqu_
 have J := Aside0.mk hfs
 have T := Aside0.mk hx
 have Z := Aside0.mk (And.intro hq (And.intro hqw (And.intro (blk_lt U) (Nat.le_refl w.heap.size))))
 have a0 := Aside0.mk (show ∀ k, (k < w.heap.size ∧ k ≠ wb ∧ k ≠ q) → (k < w.heap.size ∧ k ≠ wb ∧ k ≠ q) from fun _ h => h)
 clear U hqs_ hqu_ hfs hx hq hqw
 have a3 := G
 have a4 := T
 have a5 := J
 have hcx := SP.cnt_eq x
 go_enter Try.func27, Try.ntmps27
 go_wp2_with (first
  | ((with_reducible refine gate_dst (N := 5) rfl ?_); apply boxE 5 #[.int .i64 x.kind, .string x.text, .int .i64 x.place, .int .i64 x.n, .slice An x.names.length cn, .slice Ak x.kids.length ck] 36; intro O v1 b e A; replace z := z.f0 e; replace c := c.b0 e; replace G := G.l0 e; replace I := I.r0 e; replace J := Aside0.mk (J.out.fr e (fun _ _ h => h)); replace T := T.n0 e; replace Z := Z.a A; clear A e; have m := c.c2; have o := b.c6))
 go_loopg [103] x.kids.length (fun kq a6 w' => ∃ (i : Nat) (us : List SP.Use) (q' : Nat) (Al' : Option Addr) (cl' : Nat), a6 = .int .i64 (i : Int) ∧ i + kq = x.kids.length ∧ Aside0 (SP.parts slots fs (decide (i = 0) && decide (x.kind = 7 ∨ x.kind = 8)) us (x.kids.drop i) = rr) ∧ Aside0 (us.length + SP.cntL (x.kids.drop i) ≤ 1073741824) ∧ Aside0 ((q' = q ∨ w.heap.size ≤ q') ∧ q' ≠ wb ∧ q' ≠ O ∧ q' < w'.heap.size) ∧ Aside0 (w'.heap[wb]? = some (.cells #[.slice As slots.length cs, .slice Al' us.length cl'] 53 (0, 0))) ∧ Aside0 (kUse.R 29 w' 0 (fun k => k = q') (.slice Al' us.length cl') us) ∧ Aside0 (Fr (fun k => k = wb ∨ k = q) w w') ∧ Aside0 (w'.heap[O]? = some (.cells #[.int .i64 x.kind, .string x.text, .int .i64 x.place, .int .i64 x.n, .slice An x.names.length cn, .slice Ak x.kids.length ck] 36 (0, 0))))
 case atStart => exact ⟨0, acc, q, Al, cl, rfl, by simp, ⟨by simpa using hrr.out⟩, ⟨by rw [List.drop_zero]; omega⟩, ⟨by have r := Z.out; exact ⟨.inl rfl, by omega, by omega, by omega⟩⟩, c, I, z, b⟩
 case round =>
  obtain ⟨i, us, q', Al', cl', rfl, hi, M, HB, HQ, V, a1, X, C⟩ := hrel
  cases gk with
  | zero =>
   have c1 : decide ((i : Int) < (x.kids.length : Int)) = false := decide_eq_false (by omega)
   go_wp2
   have h2 := M.out
   rw [List.drop_eq_nil_of_le (by omega)] at h2
   simp only [SP.parts] at h2
   subst h2
   show bodyPost _ _ _ Exit.normal _ _
   refine bodyPost_end (results_none rfl _ _ _) rfl ?_
   exact ⟨rfl, ⟨q', HQ.out.1, HQ.out.2.1, HQ.out.2.2.2, _, _, V.out, a1.out⟩, X.out⟩
  | succ k1 =>
   have a2 : i < x.kids.length := by omega
   have c1 : decide ((i : Int) < (x.kids.length : Int)) = true := decide_eq_true (by omega)
   obtain ⟨y, hy⟩ : ∃ y, x.kids[i]? = some y := ⟨_, List.getElem?_eq_getElem a2⟩
   have hd : x.kids.drop i = y :: x.kids.drop (i + 1) := by
    rw [List.drop_eq_getElem_cons a2]
    congr 1
    have := List.getElem?_eq_getElem a2
    rw [this] at hy
    exact Option.some.inj hy
   have hym : y ∈ x.kids := List.mem_of_getElem? hy
   have hcy_ := SP.cnt_mem hym
   have hcx_ := SP.cnt_eq x
   have Y := HB.out
   rw [hd] at Y
   simp only [SP.cntL] at Y
   have hly : fs.length + SP.cnt y ≤ 1073741824 := by omega
   have hay : us.length + SP.cnt y ≤ 1073741824 := by omega
   replace HB := Aside0.mk Y
   clear Y hcx_ hcy_
   have hkl_ : x.kids.length < 9223372036854775807 := by have h_ := SP.len_cnt x.kids; have b2 := SP.cnt_eq x; omega
   obtain ⟨hq1, hq2, hq3, hq4⟩ := HQ.out
   have Z := Aside0.mk (And.intro hq1 (And.intro hq2 (And.intro hq3 (And.intro hq4 (And.intro X.out.size (And.intro (blk_lt V.out) (And.intro (blk_lt C.out) Z.out)))))))
   have K2 := X.out
   obtain ⟨ad, Any, cny, Aky, cky, eA, hny, hcy⟩ := kid_at (K2.Q a4.out.2 (fun k (hk : k < w.heap.size ∧ k ≠ wb ∧ k ≠ q) => (show ¬ (k = wb ∨ k = q) from by omega))) i y hy
   have G := Aside0.mk (SL.fr a3.out K2 (fun k (hk : k < w.heap.size ∧ k ≠ wb ∧ k ≠ q) => (show ¬ (k = wb ∨ k = q) from by omega)))
   have J := Aside0.mk (a5.out.fr K2 (fun k (hk : k < w.heap.size ∧ k ≠ wb ∧ k ≠ q) => (show ¬ (k = wb ∨ k = q) from by omega)))
   subst eA
   have hk0 : wr.cell? (ad.add (i * 6)) = some (.int .i64 y.kind) := hcy 0 _ rfl
   have hk1 : wr.cell? ⟨(ad.add (i * 6)).block, (ad.add (i * 6)).off + 1, none⟩ = some (.string y.text) := by rw [← add_field _ _ 1 (by decide)]; exact hcy 1 _ rfl
   have hk2 : wr.cell? ⟨(ad.add (i * 6)).block, (ad.add (i * 6)).off + 2, none⟩ = some (.int .i64 y.place) := by rw [← add_field _ _ 2 (by decide)]; exact hcy 2 _ rfl
   have hk3 : wr.cell? ⟨(ad.add (i * 6)).block, (ad.add (i * 6)).off + 3, none⟩ = some (.int .i64 y.n) := by rw [← add_field _ _ 3 (by decide)]; exact hcy 3 _ rfl
   have hk4 : wr.cell? ⟨(ad.add (i * 6)).block, (ad.add (i * 6)).off + 4, none⟩ = some (.slice Any y.names.length cny) := by rw [← add_field _ _ 4 (by decide)]; exact hcy 4 _ rfl
   have hk5 : wr.cell? ⟨(ad.add (i * 6)).block, (ad.add (i * 6)).off + 5, none⟩ = some (.slice Aky y.kids.length cky) := by rw [← add_field _ _ 5 (by decide)]; exact hcy 5 _ rfl
   have c := V
   have I := a1
   have z := X
   have b := C
   have t := Aside0.mk hny
   have h2 := M.out
   rw [hd] at h2
   simp only [SP.parts] at h2
   clear hny hcy V a1 X C a4 a3 a5 hd M hy hq1 hq2 hq3 hq4 K2 HQ
   by_cases hi0 : i = 0
   ·have c2 : ((i : Int) == 0) = true := by rw [hi0]; rfl
    cases c7 : (x.kind == 7) with
    | true =>
     have E : (decide (i = 0) && decide (x.kind = 7 ∨ x.kind = 8)) = true := by rw [hi0]; simp [eq_of_beq c7]
     rw [E] at h2
     have M := Aside0.mk h2
     clear h2 E hi0
     go_wp2_with (first
      | ((with_reducible refine gate_dst (N := 13) rfl ?_); apply boxE 13 #[.int .i64 0, .string ⟨#[]⟩, .int .i64 0, .int .i64 0, .slice none 0 0, .slice none 0 0] 36; intro j K d e A; replace z := z.f0 e; replace c := c.b0 e; replace b := b.b0 e; replace G := G.l0 e; replace I := I.r0 e; replace J := Aside0.mk (J.out.fr e (fun _ _ h => h)); replace t := t.n0 e; replace Z := Z.a A; clear A e; have m := c.c2; have o := b.c6; have l := d.e6; have B : j ≠ wb ∧ wb ≠ j ∧ j ≠ O ∧ O ≠ j := (by have r := Z.out; omega))
      | ((with_reducible refine gate_dst (N := 123) rfl ?_); have F := d.s6 (.int .i64 y.kind) (.string y.text) (.int .i64 y.place) (.int .i64 y.n) (.slice Any y.names.length cny) (.slice Aky y.kids.length cky); clear d; obtain ⟨p, u, e, d⟩ := F; rw [u]; clear u; have r := Z.out; replace z := z.f1 e (by omega); replace c := c.b1 e (by omega); replace b := b.b1 e (by omega); replace G := G.l1 e (fun k hk => by omega); replace I := I.r1 e (fun k hk => by omega); replace J := Aside0.mk (J.out.fr e (fun k hk => (show ¬ (k = j) from by have := a0.out k hk; omega))); replace t := t.n1 e (fun k hk => by omega); clear r; replace Z := Z.k e; clear e; clear m o l B; have m := c.c2; have o := b.c6; have l := d.e6; have B : j ≠ wb ∧ wb ≠ j ∧ j ≠ O ∧ O ≠ j := (by have r := Z.out; omega); apply goE 123 Try.func27 (hparts y hym fs us true wb q' fv Any Aky As cny cky cs p (by have r := Z.out; omega) (by have r := Z.out; omega) ⟨_, _, c.out, SL.mono G.out (fun k (hk : k < w.heap.size ∧ k ≠ wb ∧ k ≠ q) _ => (show k < p.heap.size ∧ k ≠ wb ∧ k ≠ q' from by have r := Z.out; omega)), I.out⟩ (t.out.mono (fun k (hk : k < w.heap.size ∧ k ≠ wb ∧ k ≠ q) _ => (show k < p.heap.size ∧ k ≠ wb ∧ k ≠ q' from by have r := Z.out; omega))) (J.out.mono (fun k (hk : k < w.heap.size ∧ k ≠ wb ∧ k ≠ q) _ => (show k < p.heap.size ∧ k ≠ wb ∧ k ≠ q' from by have r := Z.out; omega))) hly hay); rintro E L v; rcases hr_ : SP.part slots fs true us y with p_ | acc2; (rw [hr_] at v; obtain ⟨rfl, s⟩ := v; refine Or.inr ⟨_, rfl, ?_⟩; have h2 := M.out; rw [hr_] at h2; have H : rr = .error p_ := h2.symm; clear M h2; subst H; exact ⟨rfl, rfl, (z.out.then_ s (fun k (hk : k = wb ∨ k = q') => (show (k = wb ∨ k = q) ∨ w.heap.size ≤ k from by have r := Z.out; omega)))⟩); rw [hr_] at v; obtain ⟨rfl, D, s⟩ := v; refine Or.inl ⟨_, rfl, ?_⟩; replace D := Aside0.mk D; have z := Aside0.mk (z.out.then_ s (fun k (hk : k = wb ∨ k = q') => (show (k = wb ∨ k = q) ∨ w.heap.size ≤ k from by have r := Z.out; omega))); have b := Aside0.mk (s.blk b.out (show ¬ (O = wb ∨ O = q') from by have r := Z.out; omega)); replace Z := Aside0.mk (And.intro s.size Z.out); have h2 := M.out; rw [hr_] at h2; replace M := Aside0.mk h2; clear h2; clear s c G I J t m o l B; have HL := Aside0.mk (SP.part_len slots _ _ _ _ _ hr_)))
     have u : wrap64 ((i : Int) + 1) = ((i + 1 : Nat) : Int) := by unfold wrap64; omega
     (try rw [u])
     go_roundg k1
     case measure => omega
     case rel =>
      obtain ⟨q'', a7, P, S, Al'', cl'', U, hu_⟩ := D.out
      have e2_ : (decide (i + 1 = 0) && decide (x.kind = 7 ∨ x.kind = 8)) = false := by simp
      exact ⟨i + 1, acc2, q'', Al'', cl'', rfl, by omega, ⟨by rw [e2_]; exact M.out⟩, ⟨by have r := Z.out; have hL := HL.out; have hB := HB.out; omega⟩, ⟨by have r := Z.out; exact ⟨by omega, by omega, by omega, by omega⟩⟩, ⟨U⟩, ⟨hu_⟩, z, b⟩
    | false =>
     have E : (decide (i = 0) && decide (x.kind = 7 ∨ x.kind = 8)) = (x.kind == 8) := by rw [hi0]; have a8 := beq_eq_false_iff_ne.1 c7; by_cases a9 : x.kind = 8 <;> simp [a8, a9]
     rw [E] at h2
     have M := Aside0.mk h2
     clear h2 E hi0
     go_wp2_with (first
      | ((with_reducible refine gate_dst (N := 13) rfl ?_); apply boxE 13 #[.int .i64 0, .string ⟨#[]⟩, .int .i64 0, .int .i64 0, .slice none 0 0, .slice none 0 0] 36; intro j K d e A; replace z := z.f0 e; replace c := c.b0 e; replace b := b.b0 e; replace G := G.l0 e; replace I := I.r0 e; replace J := Aside0.mk (J.out.fr e (fun _ _ h => h)); replace t := t.n0 e; replace Z := Z.a A; clear A e; have m := c.c2; have o := b.c6; have l := d.e6; have B : j ≠ wb ∧ wb ≠ j ∧ j ≠ O ∧ O ≠ j := (by have r := Z.out; omega))
      | ((with_reducible refine gate_dst (N := 123) rfl ?_); have F := d.s6 (.int .i64 y.kind) (.string y.text) (.int .i64 y.place) (.int .i64 y.n) (.slice Any y.names.length cny) (.slice Aky y.kids.length cky); clear d; obtain ⟨p, u, e, d⟩ := F; rw [u]; clear u; have r := Z.out; replace z := z.f1 e (by omega); replace c := c.b1 e (by omega); replace b := b.b1 e (by omega); replace G := G.l1 e (fun k hk => by omega); replace I := I.r1 e (fun k hk => by omega); replace J := Aside0.mk (J.out.fr e (fun k hk => (show ¬ (k = j) from by have := a0.out k hk; omega))); replace t := t.n1 e (fun k hk => by omega); clear r; replace Z := Z.k e; clear e; clear m o l B; have m := c.c2; have o := b.c6; have l := d.e6; have B : j ≠ wb ∧ wb ≠ j ∧ j ≠ O ∧ O ≠ j := (by have r := Z.out; omega); apply goE 123 Try.func27 (hparts y hym fs us (x.kind == 8) wb q' fv Any Aky As cny cky cs p (by have r := Z.out; omega) (by have r := Z.out; omega) ⟨_, _, c.out, SL.mono G.out (fun k (hk : k < w.heap.size ∧ k ≠ wb ∧ k ≠ q) _ => (show k < p.heap.size ∧ k ≠ wb ∧ k ≠ q' from by have r := Z.out; omega)), I.out⟩ (t.out.mono (fun k (hk : k < w.heap.size ∧ k ≠ wb ∧ k ≠ q) _ => (show k < p.heap.size ∧ k ≠ wb ∧ k ≠ q' from by have r := Z.out; omega))) (J.out.mono (fun k (hk : k < w.heap.size ∧ k ≠ wb ∧ k ≠ q) _ => (show k < p.heap.size ∧ k ≠ wb ∧ k ≠ q' from by have r := Z.out; omega))) hly hay); rintro E L v; rcases hr_ : SP.part slots fs (x.kind == 8) us y with p_ | acc2; (rw [hr_] at v; obtain ⟨rfl, s⟩ := v; refine Or.inr ⟨_, rfl, ?_⟩; have h2 := M.out; rw [hr_] at h2; have H : rr = .error p_ := h2.symm; clear M h2; subst H; exact ⟨rfl, rfl, (z.out.then_ s (fun k (hk : k = wb ∨ k = q') => (show (k = wb ∨ k = q) ∨ w.heap.size ≤ k from by have r := Z.out; omega)))⟩); rw [hr_] at v; obtain ⟨rfl, D, s⟩ := v; refine Or.inl ⟨_, rfl, ?_⟩; replace D := Aside0.mk D; have z := Aside0.mk (z.out.then_ s (fun k (hk : k = wb ∨ k = q') => (show (k = wb ∨ k = q) ∨ w.heap.size ≤ k from by have r := Z.out; omega))); have b := Aside0.mk (s.blk b.out (show ¬ (O = wb ∨ O = q') from by have r := Z.out; omega)); replace Z := Aside0.mk (And.intro s.size Z.out); have h2 := M.out; rw [hr_] at h2; replace M := Aside0.mk h2; clear h2; clear s c G I J t m o l B; have HL := Aside0.mk (SP.part_len slots _ _ _ _ _ hr_)))
     have u : wrap64 ((i : Int) + 1) = ((i + 1 : Nat) : Int) := by unfold wrap64; omega
     (try rw [u])
     go_roundg k1
     case measure => omega
     case rel =>
      obtain ⟨q'', a7, P, S, Al'', cl'', U, hu_⟩ := D.out
      have e2_ : (decide (i + 1 = 0) && decide (x.kind = 7 ∨ x.kind = 8)) = false := by simp
      exact ⟨i + 1, acc2, q'', Al'', cl'', rfl, by omega, ⟨by rw [e2_]; exact M.out⟩, ⟨by have r := Z.out; have hL := HL.out; have hB := HB.out; omega⟩, ⟨by have r := Z.out; exact ⟨by omega, by omega, by omega, by omega⟩⟩, ⟨U⟩, ⟨hu_⟩, z, b⟩
   ·have E : (decide (i = 0) && decide (x.kind = 7 ∨ x.kind = 8)) = false := by rw [decide_eq_false hi0]; rfl
    rw [E] at h2
    have M := Aside0.mk h2
    have c2 : ((i : Int) == 0) = false := beq_eq_false_iff_ne.2 (by omega)
    clear h2 E
    go_wp2_with (first
     | ((with_reducible refine gate_dst (N := 13) rfl ?_); apply boxE 13 #[.int .i64 0, .string ⟨#[]⟩, .int .i64 0, .int .i64 0, .slice none 0 0, .slice none 0 0] 36; intro j K d e A; replace z := z.f0 e; replace c := c.b0 e; replace b := b.b0 e; replace G := G.l0 e; replace I := I.r0 e; replace J := Aside0.mk (J.out.fr e (fun _ _ h => h)); replace t := t.n0 e; replace Z := Z.a A; clear A e; have m := c.c2; have o := b.c6; have l := d.e6; have B : j ≠ wb ∧ wb ≠ j ∧ j ≠ O ∧ O ≠ j := (by have r := Z.out; omega))
     | ((with_reducible refine gate_dst (N := 123) rfl ?_); have F := d.s6 (.int .i64 y.kind) (.string y.text) (.int .i64 y.place) (.int .i64 y.n) (.slice Any y.names.length cny) (.slice Aky y.kids.length cky); clear d; obtain ⟨p, u, e, d⟩ := F; rw [u]; clear u; have r := Z.out; replace z := z.f1 e (by omega); replace c := c.b1 e (by omega); replace b := b.b1 e (by omega); replace G := G.l1 e (fun k hk => by omega); replace I := I.r1 e (fun k hk => by omega); replace J := Aside0.mk (J.out.fr e (fun k hk => (show ¬ (k = j) from by have := a0.out k hk; omega))); replace t := t.n1 e (fun k hk => by omega); clear r; replace Z := Z.k e; clear e; clear m o l B; have m := c.c2; have o := b.c6; have l := d.e6; have B : j ≠ wb ∧ wb ≠ j ∧ j ≠ O ∧ O ≠ j := (by have r := Z.out; omega); apply goE 123 Try.func27 (hparts y hym fs us false wb q' fv Any Aky As cny cky cs p (by have r := Z.out; omega) (by have r := Z.out; omega) ⟨_, _, c.out, SL.mono G.out (fun k (hk : k < w.heap.size ∧ k ≠ wb ∧ k ≠ q) _ => (show k < p.heap.size ∧ k ≠ wb ∧ k ≠ q' from by have r := Z.out; omega)), I.out⟩ (t.out.mono (fun k (hk : k < w.heap.size ∧ k ≠ wb ∧ k ≠ q) _ => (show k < p.heap.size ∧ k ≠ wb ∧ k ≠ q' from by have r := Z.out; omega))) (J.out.mono (fun k (hk : k < w.heap.size ∧ k ≠ wb ∧ k ≠ q) _ => (show k < p.heap.size ∧ k ≠ wb ∧ k ≠ q' from by have r := Z.out; omega))) hly hay); rintro E L v; rcases hr_ : SP.part slots fs false us y with p_ | acc2; (rw [hr_] at v; obtain ⟨rfl, s⟩ := v; refine Or.inr ⟨_, rfl, ?_⟩; have h2 := M.out; rw [hr_] at h2; have H : rr = .error p_ := h2.symm; clear M h2; subst H; exact ⟨rfl, rfl, (z.out.then_ s (fun k (hk : k = wb ∨ k = q') => (show (k = wb ∨ k = q) ∨ w.heap.size ≤ k from by have r := Z.out; omega)))⟩); rw [hr_] at v; obtain ⟨rfl, D, s⟩ := v; refine Or.inl ⟨_, rfl, ?_⟩; replace D := Aside0.mk D; have z := Aside0.mk (z.out.then_ s (fun k (hk : k = wb ∨ k = q') => (show (k = wb ∨ k = q) ∨ w.heap.size ≤ k from by have r := Z.out; omega))); have b := Aside0.mk (s.blk b.out (show ¬ (O = wb ∨ O = q') from by have r := Z.out; omega)); replace Z := Aside0.mk (And.intro s.size Z.out); have h2 := M.out; rw [hr_] at h2; replace M := Aside0.mk h2; clear h2; clear s c G I J t m o l B; have HL := Aside0.mk (SP.part_len slots _ _ _ _ _ hr_)))
    have u : wrap64 ((i : Int) + 1) = ((i + 1 : Nat) : Int) := by unfold wrap64; omega
    (try rw [u])
    go_roundg k1
    case measure => omega
    case rel =>
     obtain ⟨q'', a7, P, S, Al'', cl'', U, hu_⟩ := D.out
     have e2_ : (decide (i + 1 = 0) && decide (x.kind = 7 ∨ x.kind = 8)) = false := by simp
     exact ⟨i + 1, acc2, q'', Al'', cl'', rfl, by omega, ⟨by rw [e2_]; exact M.out⟩, ⟨by have r := Z.out; have hL := HL.out; have hB := HB.out; omega⟩, ⟨by have r := Z.out; exact ⟨by omega, by omega, by omega, by omega⟩⟩, ⟨U⟩, ⟨hu_⟩, z, b⟩
theorem scope_part.set {x : SP.Nd} {slots : List ByteArray} {fs : List SP.Fr} {acc : List SP.Use} {wb q : Nat} {fv : Value} {rcv : Bool} {An Ak As : Option Addr} {cn ck cs : Nat} (w : World) (hq : q < w.heap.size) (hqw : q ≠ wb) (hw : WSt (fun k => k < w.heap.size ∧ k ≠ wb ∧ k ≠ q) q w wb As cs slots acc) (hx : NQ (fun k => k < w.heap.size ∧ k ≠ wb ∧ k ≠ q) w x (.slice An x.names.length cn) (.slice Ak x.kids.length ck)) (hfs : Frs (fun k => k < w.heap.size ∧ k ≠ wb ∧ k ≠ q) w fv fs) (hl : fs.length ≤ 1073741824) (ha : acc.length < 1099511627776) (hparts : ∀ y, y ∈ x.kids → PartC y slots) (hl1 : fs.length + SP.cnt x ≤ 1073741824) (ha1 : acc.length + SP.cnt x ≤ 1073741824) (h5 : (x.kind == 5) = false) (hk : (x.kind == 6) = true) (hb : (SP.find slots x.text fs).2 = false) {rr : SP.W} (hrr : Aside0 (SP.parts slots fs (decide (x.kind = 7 ∨ x.kind = 8)) (acc ++ [{ (SP.find slots x.text fs).1 with place := x.place, write := true }]) x.kids = rr)) (hc_ : (((SP.find slots x.text fs).1.kind != 3) = false) ∨ (((SP.find slots x.text fs).1.kind != 3) = true ∧ ((SP.find slots x.text fs).1.kind != 4) = false)) : Calls Try.prog 27 #[.pointer (some ⟨wb, 0, none⟩), .agg #[.int .i64 x.kind, .string x.text, .int .i64 x.place, .int .i64 x.n, .slice An x.names.length cn, .slice Ak x.kids.length ck], fv, .bool rcv] w (PartA q wb As cs slots.length rr w) := by
 rcases hc_ with h3 | ⟨h3, h4⟩
 all_goals (
  have hu29 := Try.underlying29
  have hu36 := Try.underlying36
  have A := Aside0.mk (Fr.refl (fun k => k = wb ∨ k = q) w)
  obtain ⟨Al, cl, X, hqs_, hqu_⟩ := hw
  have b := Aside0.mk X
  have I := Aside0.mk hqs_
  have G := Aside0.mk hqu_
  have J := Aside0.mk hfs
  have D := Aside0.mk hx
  have Z := Aside0.mk (And.intro hq (And.intro hqw (And.intro (blk_lt X) (Nat.le_refl w.heap.size))))
  have a0 := Aside0.mk (show ∀ k, (k < w.heap.size ∧ k ≠ wb ∧ k ≠ q) → (k < w.heap.size ∧ k ≠ wb ∧ k ≠ q) from fun _ h => h)
  clear X hqs_ hqu_ hfs hx hq hqw
  have c0 := I
  have c3 := D
  have c4 := J
  have hcx := SP.cnt_eq x
  have HM := Aside0.mk (fun k hk => Kd.R_lt G.out k hk)
  have d3 : (x.kind == 10) = false := by have := eq_of_beq hk; rw [this]; rfl
  go_enter Try.func27, Try.ntmps27
  go_wp2_with (first
   | ((with_reducible refine gate_dst (N := 5) rfl ?_); apply boxE 5 #[.int .i64 x.kind, .string x.text, .int .i64 x.place, .int .i64 x.n, .slice An x.names.length cn, .slice Ak x.kids.length ck] 36; intro Y v1 c e E; replace A := A.f0 e; replace b := b.b0 e; replace I := I.l0 e; replace G := G.r0 e; replace J := Aside0.mk (J.out.fr e (fun _ _ h => h)); replace D := D.n0 e; replace Z := Z.a E; clear E e; have j := b.c2; have l := c.c6)
   | ((with_reducible refine gate_dst (N := 62) rfl ?_); apply goE 62 Try.func36 (scope_find.calls (F := fun k => k < w.heap.size ∧ k ≠ wb ∧ k ≠ q) v1 (fun k hk => by have r := Z.out; omega) ⟨_, _, _, b.out, I.out⟩ J.out hl); rintro e_ v2 ⟨rfl, X⟩; refine Or.inl ⟨_, rfl, ?_⟩; simp only [useC]; have e : Fr (fun _ => False) v1 v2 := Fr.of_below X; replace A := A.f0 e; replace b := b.b0 e; replace I := I.l0 e; replace G := G.r0 e; replace J := Aside0.mk (J.out.fr e (fun _ _ h => h)); replace D := D.n0 e; replace c := c.b0 e; replace Z := Z.k e; clear e X; clear j l; have j := b.c2; have l := c.c6)
   | ((with_reducible refine gate_dst (N := 10) rfl ?_); apply boxE 10 #[.int .i64 0, .string ⟨#[]⟩, .int .i64 0, .int .i64 0, .int .i64 0, .bool false] 29; intro m v3 d e E; replace A := A.f0 e; replace b := b.b0 e; replace I := I.l0 e; replace G := G.r0 e; replace J := Aside0.mk (J.out.fr e (fun _ _ h => h)); replace D := D.n0 e; replace c := c.b0 e; replace Z := Z.a E; clear E e; clear j l; have j := b.c2; have l := c.c6; have O := d.e6; have U : m ≠ wb ∧ wb ≠ m ∧ m ≠ Y ∧ Y ≠ m := (by have r := Z.out; omega)))
  have C := d.s6 (.int .i64 (SP.find slots x.text fs).1.place) (.string (SP.find slots x.text fs).1.name) (.int .i64 (SP.find slots x.text fs).1.kind) (.int .i64 (SP.find slots x.text fs).1.depth) (.int .i64 (SP.find slots x.text fs).1.index) (.bool (SP.find slots x.text fs).1.write)
  clear d
  obtain ⟨v4, p, e, d⟩ := C
  rw [p]
  clear p
  have r := Z.out
  replace A := A.f1 e (by omega)
  replace b := b.b1 e (by omega)
  replace I := I.l1 e (fun k hk => by omega)
  replace G := G.r1 e (fun k hk => by omega)
  replace J := Aside0.mk (J.out.fr e (fun k hk => (show ¬ (k = m) from by have := a0.out k hk; omega)))
  replace D := D.n1 e (fun k hk => by omega)
  replace c := c.b1 e (by omega)
  clear r
  replace Z := Z.k e
  clear e
  clear j l O U
  have j := b.c2
  have l := c.c6
  have O := d.e6
  have U : m ≠ wb ∧ wb ≠ m ∧ m ≠ Y ∧ Y ≠ m := (by have r := Z.out; omega)
  have C := d.st 0 (.int .i64 x.place) (cs' := #[.int .i64 x.place, .string (SP.find slots x.text fs).1.name, .int .i64 (SP.find slots x.text fs).1.kind, .int .i64 (SP.find slots x.text fs).1.depth, .int .i64 (SP.find slots x.text fs).1.index, .bool (SP.find slots x.text fs).1.write]) rfl
  clear d
  obtain ⟨v5, p, e, d⟩ := C
  rw [p]
  clear p
  have r := Z.out
  replace A := A.f1 e (by omega)
  replace b := b.b1 e (by omega)
  replace I := I.l1 e (fun k hk => by omega)
  replace G := G.r1 e (fun k hk => by omega)
  replace J := Aside0.mk (J.out.fr e (fun k hk => (show ¬ (k = m) from by have := a0.out k hk; omega)))
  replace D := D.n1 e (fun k hk => by omega)
  replace c := c.b1 e (by omega)
  clear r
  replace Z := Z.k e
  clear e
  clear j l O U
  have j := b.c2
  have l := c.c6
  have O := d.e6
  have U : m ≠ wb ∧ wb ≠ m ∧ m ≠ Y ∧ Y ≠ m := (by have r := Z.out; omega)
  have C := d.st 5 (.bool true) (cs' := #[.int .i64 x.place, .string (SP.find slots x.text fs).1.name, .int .i64 (SP.find slots x.text fs).1.kind, .int .i64 (SP.find slots x.text fs).1.depth, .int .i64 (SP.find slots x.text fs).1.index, .bool true]) rfl
  clear d
  obtain ⟨v6, p, e, d⟩ := C
  rw [p]
  clear p
  have r := Z.out
  replace A := A.f1 e (by omega)
  replace b := b.b1 e (by omega)
  replace I := I.l1 e (fun k hk => by omega)
  replace G := G.r1 e (fun k hk => by omega)
  replace J := Aside0.mk (J.out.fr e (fun k hk => (show ¬ (k = m) from by have := a0.out k hk; omega)))
  replace D := D.n1 e (fun k hk => by omega)
  replace c := c.b1 e (by omega)
  clear r
  replace Z := Z.k e
  clear e
  clear j l O U
  have j := b.c2
  have l := c.c6
  have O := d.e6
  have U : m ≠ wb ∧ wb ≠ m ∧ m ≠ Y ∧ Y ≠ m := (by have r := Z.out; omega)
  refine start_ (n := 11) (S := fun w' => (w'.cell? ⟨wb, 1, none⟩ = some (.slice Al acc.length cl)) ∧ (w'.cell? ⟨m, 0, none⟩ = some (.int .i64 x.place)) ∧ (w'.cell? ⟨m, 1, none⟩ = some (.string (SP.find slots x.text fs).1.name)) ∧ (w'.cell? ⟨m, 2, none⟩ = some (.int .i64 (SP.find slots x.text fs).1.kind)) ∧ (w'.cell? ⟨m, 3, none⟩ = some (.int .i64 (SP.find slots x.text fs).1.depth)) ∧ (w'.cell? ⟨m, 4, none⟩ = some (.int .i64 (SP.find slots x.text fs).1.index)) ∧ (w'.cell? ⟨m, 5, none⟩ = some (.bool true))) (ds := [10]) #[false, false, false, false, false, false, false, false, false, false, false] (by kernel_rfl) rfl rfl (show ((World.drew v6).cell? ⟨wb, 1, none⟩ = some (.slice Al acc.length cl)) ∧ ((World.drew v6).cell? ⟨m, 0, none⟩ = some (.int .i64 x.place)) ∧ ((World.drew v6).cell? ⟨m, 1, none⟩ = some (.string (SP.find slots x.text fs).1.name)) ∧ ((World.drew v6).cell? ⟨m, 2, none⟩ = some (.int .i64 (SP.find slots x.text fs).1.kind)) ∧ ((World.drew v6).cell? ⟨m, 3, none⟩ = some (.int .i64 (SP.find slots x.text fs).1.depth)) ∧ ((World.drew v6).cell? ⟨m, 4, none⟩ = some (.int .i64 (SP.find slots x.text fs).1.index)) ∧ ((World.drew v6).cell? ⟨m, 5, none⟩ = some (.bool true)) from ⟨(blk_cell b.out 1).trans rfl, (blk_cell d.out 0).trans rfl, (blk_cell d.out 1).trans rfl, (blk_cell d.out 2).trans rfl, (blk_cell d.out 3).trans rfl, (blk_cell d.out 4).trans rfl, (blk_cell d.out 5).trans rfl⟩) (fun L => ?_)
  obtain ⟨v7, p⟩ : ∃ W_, W_ = World.drew v6 := ⟨_, rfl⟩
  rw [← p] at L ⊢
  have e : Fr (fun _ => False) v6 v7 := (by rw [p]; exact (Fr.refl _ _).drew)
  replace A := A.f0 e
  replace b := b.b0 e
  replace I := I.l0 e
  replace G := G.r0 e
  replace J := Aside0.mk (J.out.fr e (fun _ _ h => h))
  replace D := D.n0 e
  replace c := c.b0 e
  replace d := d.b0 e
  replace Z := Z.k e
  clear e p
  clear j l O U
  apply puA 0 84
  apply puA 1 85
  apply puA 2 86
  apply puA 3 87
  apply tkA 4 88 L
  apply tkA 5 89 L
  apply oN 6 (some 90); intro K hK
  refine newR_ (cs := #[.int .i64 x.place, .string (SP.find slots x.text fs).1.name, .int .i64 (SP.find slots x.text fs).1.kind, .int .i64 (SP.find slots x.text fs).1.depth, .int .i64 (SP.find slots x.text fs).1.index, .bool true]) (t := 29) (by rfl) rfl ?hr ?_
  (case hr => first | (go_simp; done) | (go_simp; rfl))
  intro bS b6 v8 a2 X
  have e : Fr (fun _ => False) v7 v8 := Fr.of_below X
  replace A := A.f0 e
  replace b := b.b0 e
  replace I := I.l0 e
  replace G := G.r0 e
  replace J := Aside0.mk (J.out.fr e (fun _ _ h => h))
  replace D := D.n0 e
  replace c := c.b0 e
  replace d := d.b0 e
  replace Z := Z.k e
  replace Z := Aside0.mk (And.intro (Nat.le_of_eq b6.symm) Z.out)
  replace Z := Aside0.mk (And.intro (Nat.le_of_eq b6) Z.out)
  replace Z := Aside0.mk (And.intro (blk_lt a2) Z.out)
  have b2 := Aside0.mk a2
  clear b6 a2 X e
  refine hK.out _ _ (show (v8.cell? ⟨wb, 1, none⟩ = some (.slice Al acc.length cl)) ∧ (v8.cell? ⟨m, 0, none⟩ = some (.int .i64 x.place)) ∧ (v8.cell? ⟨m, 1, none⟩ = some (.string (SP.find slots x.text fs).1.name)) ∧ (v8.cell? ⟨m, 2, none⟩ = some (.int .i64 (SP.find slots x.text fs).1.kind)) ∧ (v8.cell? ⟨m, 3, none⟩ = some (.int .i64 (SP.find slots x.text fs).1.depth)) ∧ (v8.cell? ⟨m, 4, none⟩ = some (.int .i64 (SP.find slots x.text fs).1.index)) ∧ (v8.cell? ⟨m, 5, none⟩ = some (.bool true)) from ⟨(blk_cell b.out 1).trans rfl, (blk_cell d.out 0).trans rfl, (blk_cell d.out 1).trans rfl, (blk_cell d.out 2).trans rfl, (blk_cell d.out 3).trans rfl, (blk_cell d.out 4).trans rfl, (blk_cell d.out 5).trans rfl⟩) (fun L => ?_)
  clear hK K
  apply nmA 90
  apply oN 7 (some 91); intro K hK
  obtain ⟨AP, b7, v9, c8, a5, a1, e, a6⟩ := use_push (u := { (SP.find slots x.text fs).1 with place := x.place, write := true }) (W := v8) 23 w.heap.size HM.out (R_mono' (T := fun k => ((k = q ∨ w.heap.size ≤ k) ∧ k ≠ Y)) G.out (fun k (d4 : (k = q)) _ => (show ((k = q ∨ w.heap.size ≤ k) ∧ k ≠ Y) from by have r := Z.out; omega))) (fun k hk => (show ((k = q ∨ w.heap.size ≤ k) ∧ k ≠ Y) from by have r := Z.out; omega)) (show ((bS = q ∨ w.heap.size ≤ bS) ∧ bS ≠ Y) from by have r := Z.out; omega) b2.out (ha)
  refine appendR_ (.tmp 88) (.tmp 90) (by rfl) rfl rfl rfl rfl a5 ?_
  replace Z := Aside0.mk (And.intro (a6) Z.out)
  clear a6 a5 b2 G HM
  have r := Z.out
  replace A := A.f1 e (by omega)
  replace b := b.b1 e (by omega)
  replace I := I.l1 e (fun k hk => by omega)
  replace J := Aside0.mk (J.out.fr e (fun k hk => (show ¬ (k = c8) from by have := a0.out k hk; omega)))
  replace D := D.n1 e (fun k hk => by omega)
  replace c := c.b1 e (by omega)
  replace d := d.b1 e (by omega)
  clear r
  replace Z := Z.k e
  clear e
  have G := Aside0.mk a1
  clear a1
  refine hK.out _ _ (show (v9.cell? ⟨wb, 1, none⟩ = some (.slice Al acc.length cl)) ∧ (v9.cell? ⟨m, 0, none⟩ = some (.int .i64 x.place)) ∧ (v9.cell? ⟨m, 1, none⟩ = some (.string (SP.find slots x.text fs).1.name)) ∧ (v9.cell? ⟨m, 2, none⟩ = some (.int .i64 (SP.find slots x.text fs).1.kind)) ∧ (v9.cell? ⟨m, 3, none⟩ = some (.int .i64 (SP.find slots x.text fs).1.depth)) ∧ (v9.cell? ⟨m, 4, none⟩ = some (.int .i64 (SP.find slots x.text fs).1.index)) ∧ (v9.cell? ⟨m, 5, none⟩ = some (.bool true)) from ⟨(blk_cell b.out 1).trans rfl, (blk_cell d.out 0).trans rfl, (blk_cell d.out 1).trans rfl, (blk_cell d.out 2).trans rfl, (blk_cell d.out 3).trans rfl, (blk_cell d.out 4).trans rfl, (blk_cell d.out 5).trans rfl⟩) (fun L => ?_)
  clear hK K
  apply nmA 91
  apply puA 8 92
  apply puA 9 93
  apply la 10 none; intro K hK
  have c9 := b.z
  have hc_ := b.c2
  have C := b.st 1 (.slice AP (acc.length + 1) b7) (cs' := #[.slice As slots.length cs, .slice AP (acc.length + 1) b7]) rfl
  clear b
  obtain ⟨d0, p, e, b⟩ := C
  refine skip_ (w1 := d0) (by rfl) rfl ?_ ?_
  ·rw [← p]
   clear p
   go_simp
   (try rfl)
  have r := Z.out
  replace A := A.f1 e (by omega)
  replace I := I.l1 e (fun k hk => by omega)
  replace J := Aside0.mk (J.out.fr e (fun k hk => (show ¬ (k = wb) from by have := a0.out k hk; omega)))
  replace D := D.n1 e (fun k hk => by omega)
  replace c := c.b1 e (by omega)
  replace d := d.b1 e (by omega)
  replace G := G.r1 e (fun k hk => by omega)
  clear r
  replace Z := Z.k e
  clear c9 hc_ p e
  refine hK.out _ _ ?_
  clear hK K
  refine done_ (by kernel_rfl) ?_
  have r := Z.out
  obtain ⟨q1, C, hl_, hu_⟩ := use_own G.out q ⟨show (q = q ∨ w.heap.size ≤ q) ∧ q ≠ Y from by omega, by omega⟩
  have hs2_ : (q1 = q ∨ w.heap.size ≤ q1) ∧ q1 ≠ Y := C
  have e_ : (acc ++ [{ (SP.find slots x.text fs).1 with place := x.place, write := true }]).length = acc.length + 1 := by simp
  clear r
  have j := b.c2
  have l := c.c6
  go_wp2
  go_loopg [103] x.kids.length (fun kq c5 w' => ∃ (i : Nat) (us : List SP.Use) (q' : Nat) (Al' : Option Addr) (cl' : Nat), c5 = .int .i64 (i : Int) ∧ i + kq = x.kids.length ∧ Aside0 (SP.parts slots fs (decide (i = 0) && decide (x.kind = 7 ∨ x.kind = 8)) us (x.kids.drop i) = rr) ∧ Aside0 (us.length + SP.cntL (x.kids.drop i) ≤ 1073741824) ∧ Aside0 ((q' = q ∨ w.heap.size ≤ q') ∧ q' ≠ wb ∧ q' ≠ Y ∧ q' < w'.heap.size) ∧ Aside0 (w'.heap[wb]? = some (.cells #[.slice As slots.length cs, .slice Al' us.length cl'] 53 (0, 0))) ∧ Aside0 (kUse.R 29 w' 0 (fun k => k = q') (.slice Al' us.length cl') us) ∧ Aside0 (Fr (fun k => k = wb ∨ k = q) w w') ∧ Aside0 (w'.heap[Y]? = some (.cells #[.int .i64 x.kind, .string x.text, .int .i64 x.place, .int .i64 x.n, .slice An x.names.length cn, .slice Ak x.kids.length ck] 36 (0, 0))))
  case atStart => exact ⟨0, acc ++ [{ (SP.find slots x.text fs).1 with place := x.place, write := true }], q1, AP, b7, rfl, by simp, ⟨by simpa using hrr.out⟩, ⟨by rw [List.drop_zero, e_]; omega⟩, ⟨by have r := Z.out; exact ⟨hs2_.1, by omega, by omega, by omega⟩⟩, ⟨by rw [e_]; exact b.out⟩, ⟨by rw [e_]; exact hu_⟩, A, c⟩
  case round =>
   obtain ⟨i, us, q', Al', cl', rfl, hi, HP, HB, HQ, a3, b8, a7, a8⟩ := hrel
   cases gk with
   | zero =>
    have c1 : decide ((i : Int) < (x.kids.length : Int)) = false := decide_eq_false (by omega)
    go_wp2
    have h2 := HP.out
    rw [List.drop_eq_nil_of_le (by omega)] at h2
    simp only [SP.parts] at h2
    subst h2
    show bodyPost _ _ _ Exit.normal _ _
    refine bodyPost_end (results_none rfl _ _ _) rfl ?_
    exact ⟨rfl, ⟨q', HQ.out.1, HQ.out.2.1, HQ.out.2.2.2, _, _, a3.out, b8.out⟩, a7.out⟩
   | succ k1 =>
    have b9 : i < x.kids.length := by omega
    have c1 : decide ((i : Int) < (x.kids.length : Int)) = true := decide_eq_true (by omega)
    obtain ⟨y, hy⟩ : ∃ y, x.kids[i]? = some y := ⟨_, List.getElem?_eq_getElem b9⟩
    have hd : x.kids.drop i = y :: x.kids.drop (i + 1) := by
     rw [List.drop_eq_getElem_cons b9]
     congr 1
     have := List.getElem?_eq_getElem b9
     rw [this] at hy
     exact Option.some.inj hy
    have hym : y ∈ x.kids := List.mem_of_getElem? hy
    have hcy_ := SP.cnt_mem hym
    have hcx_ := SP.cnt_eq x
    have a4 := HB.out
    rw [hd] at a4
    simp only [SP.cntL] at a4
    have hly : fs.length + SP.cnt y ≤ 1073741824 := by omega
    have hay : us.length + SP.cnt y ≤ 1073741824 := by omega
    replace HB := Aside0.mk a4
    clear a4 hcx_ hcy_
    have hkl_ : x.kids.length < 9223372036854775807 := by have h_ := SP.len_cnt x.kids; have d5 := SP.cnt_eq x; omega
    obtain ⟨hq1, hq2, hq3, hq4⟩ := HQ.out
    have Z := Aside0.mk (And.intro hq1 (And.intro hq2 (And.intro hq3 (And.intro hq4 (And.intro a7.out.size (And.intro (blk_lt a3.out) (And.intro (blk_lt a8.out) Z.out)))))))
    have K2 := a7.out
    obtain ⟨ad, Any, cny, Aky, cky, eA, hny, hcy⟩ := kid_at (K2.Q c3.out.2 (fun k (hk : k < w.heap.size ∧ k ≠ wb ∧ k ≠ q) => (show ¬ (k = wb ∨ k = q) from by omega))) i y hy
    have I := Aside0.mk (SL.fr c0.out K2 (fun k (hk : k < w.heap.size ∧ k ≠ wb ∧ k ≠ q) => (show ¬ (k = wb ∨ k = q) from by omega)))
    have J := Aside0.mk (c4.out.fr K2 (fun k (hk : k < w.heap.size ∧ k ≠ wb ∧ k ≠ q) => (show ¬ (k = wb ∨ k = q) from by omega)))
    subst eA
    have hk0 : wr.cell? (ad.add (i * 6)) = some (.int .i64 y.kind) := hcy 0 _ rfl
    have hk1 : wr.cell? ⟨(ad.add (i * 6)).block, (ad.add (i * 6)).off + 1, none⟩ = some (.string y.text) := by rw [← add_field _ _ 1 (by decide)]; exact hcy 1 _ rfl
    have hk2 : wr.cell? ⟨(ad.add (i * 6)).block, (ad.add (i * 6)).off + 2, none⟩ = some (.int .i64 y.place) := by rw [← add_field _ _ 2 (by decide)]; exact hcy 2 _ rfl
    have hk3 : wr.cell? ⟨(ad.add (i * 6)).block, (ad.add (i * 6)).off + 3, none⟩ = some (.int .i64 y.n) := by rw [← add_field _ _ 3 (by decide)]; exact hcy 3 _ rfl
    have hk4 : wr.cell? ⟨(ad.add (i * 6)).block, (ad.add (i * 6)).off + 4, none⟩ = some (.slice Any y.names.length cny) := by rw [← add_field _ _ 4 (by decide)]; exact hcy 4 _ rfl
    have hk5 : wr.cell? ⟨(ad.add (i * 6)).block, (ad.add (i * 6)).off + 5, none⟩ = some (.slice Aky y.kids.length cky) := by rw [← add_field _ _ 5 (by decide)]; exact hcy 5 _ rfl
    have b := a3
    have G := b8
    have A := a7
    have c := a8
    have V := Aside0.mk hny
    have h2 := HP.out
    rw [hd] at h2
    simp only [SP.parts] at h2
    clear hny hcy a3 b8 a7 a8 c3 c0 c4 hd HP hy hq1 hq2 hq3 hq4 K2 HQ
    by_cases hi0 : i = 0
    ·have c2 : ((i : Int) == 0) = true := by rw [hi0]; rfl
     cases c7 : (x.kind == 7) with
     | true =>
      have e_ : (decide (i = 0) && decide (x.kind = 7 ∨ x.kind = 8)) = true := by rw [hi0]; simp [eq_of_beq c7]
      rw [e_] at h2
      have HP := Aside0.mk h2
      clear h2 e_ hi0
      go_wp2_with (first
       | ((with_reducible refine gate_dst (N := 13) rfl ?_); apply boxE 13 #[.int .i64 0, .string ⟨#[]⟩, .int .i64 0, .int .i64 0, .slice none 0 0, .slice none 0 0] 36; intro s b3 o e E; replace A := A.f0 e; replace b := b.b0 e; replace c := c.b0 e; replace I := I.l0 e; replace G := G.r0 e; replace J := Aside0.mk (J.out.fr e (fun _ _ h => h)); replace V := V.n0 e; replace Z := Z.a E; clear E e; have j := b.c2; have l := c.c6; have v := o.e6; have U : s ≠ wb ∧ wb ≠ s ∧ s ≠ Y ∧ Y ≠ s := (by have r := Z.out; omega))
       | ((with_reducible refine gate_dst (N := 123) rfl ?_); have C := o.s6 (.int .i64 y.kind) (.string y.text) (.int .i64 y.place) (.int .i64 y.n) (.slice Any y.names.length cny) (.slice Aky y.kids.length cky); clear o; obtain ⟨B, p, e, o⟩ := C; rw [p]; clear p; have r := Z.out; replace A := A.f1 e (by omega); replace b := b.b1 e (by omega); replace c := c.b1 e (by omega); replace I := I.l1 e (fun k hk => by omega); replace G := G.r1 e (fun k hk => by omega); replace J := Aside0.mk (J.out.fr e (fun k hk => (show ¬ (k = s) from by have := a0.out k hk; omega))); replace V := V.n1 e (fun k hk => by omega); clear r; replace Z := Z.k e; clear e; clear j l v U; have j := b.c2; have l := c.c6; have v := o.e6; have U : s ≠ wb ∧ wb ≠ s ∧ s ≠ Y ∧ Y ≠ s := (by have r := Z.out; omega); apply goE 123 Try.func27 (hparts y hym fs us true wb q' fv Any Aky As cny cky cs B (by have r := Z.out; omega) (by have r := Z.out; omega) ⟨_, _, b.out, SL.mono I.out (fun k (hk : k < w.heap.size ∧ k ≠ wb ∧ k ≠ q) _ => (show k < B.heap.size ∧ k ≠ wb ∧ k ≠ q' from by have r := Z.out; omega)), G.out⟩ (V.out.mono (fun k (hk : k < w.heap.size ∧ k ≠ wb ∧ k ≠ q) _ => (show k < B.heap.size ∧ k ≠ wb ∧ k ≠ q' from by have r := Z.out; omega))) (J.out.mono (fun k (hk : k < w.heap.size ∧ k ≠ wb ∧ k ≠ q) _ => (show k < B.heap.size ∧ k ≠ wb ∧ k ≠ q' from by have r := Z.out; omega))) hly hay); rintro e_ b4 H; rcases hr_ : SP.part slots fs true us y with p_ | acc2; (rw [hr_] at H; obtain ⟨rfl, M⟩ := H; refine Or.inr ⟨_, rfl, ?_⟩; have h2 := HP.out; rw [hr_] at h2; have a9 : rr = .error p_ := h2.symm; clear HP h2; subst a9; exact ⟨rfl, rfl, (A.out.then_ M (fun k (hk : k = wb ∨ k = q') => (show (k = wb ∨ k = q) ∨ w.heap.size ≤ k from by have r := Z.out; omega)))⟩); rw [hr_] at H; obtain ⟨rfl, P, M⟩ := H; refine Or.inl ⟨_, rfl, ?_⟩; replace P := Aside0.mk P; have A := Aside0.mk (A.out.then_ M (fun k (hk : k = wb ∨ k = q') => (show (k = wb ∨ k = q) ∨ w.heap.size ≤ k from by have r := Z.out; omega))); have c := Aside0.mk (M.blk c.out (show ¬ (Y = wb ∨ Y = q') from by have r := Z.out; omega)); replace Z := Aside0.mk (And.intro M.size Z.out); have h2 := HP.out; rw [hr_] at h2; replace HP := Aside0.mk h2; clear h2; clear M b I G J V j l v U; have HL := Aside0.mk (SP.part_len slots _ _ _ _ _ hr_)))
      have p : wrap64 ((i : Int) + 1) = ((i + 1 : Nat) : Int) := by unfold wrap64; omega
      (try rw [p])
      go_roundg k1
      case measure => omega
      case rel =>
       obtain ⟨q'', a6, a1, b5, Al'', cl'', X, hu_⟩ := P.out
       have e2_ : (decide (i + 1 = 0) && decide (x.kind = 7 ∨ x.kind = 8)) = false := by simp
       exact ⟨i + 1, acc2, q'', Al'', cl'', rfl, by omega, ⟨by rw [e2_]; exact HP.out⟩, ⟨by have r := Z.out; have hL := HL.out; have hB := HB.out; omega⟩, ⟨by have r := Z.out; exact ⟨by omega, by omega, by omega, by omega⟩⟩, ⟨X⟩, ⟨hu_⟩, A, c⟩
     | false =>
      have e_ : (decide (i = 0) && decide (x.kind = 7 ∨ x.kind = 8)) = (x.kind == 8) := by rw [hi0]; have d1 := beq_eq_false_iff_ne.1 c7; by_cases d2 : x.kind = 8 <;> simp [d1, d2]
      rw [e_] at h2
      have HP := Aside0.mk h2
      clear h2 e_ hi0
      go_wp2_with (first
       | ((with_reducible refine gate_dst (N := 13) rfl ?_); apply boxE 13 #[.int .i64 0, .string ⟨#[]⟩, .int .i64 0, .int .i64 0, .slice none 0 0, .slice none 0 0] 36; intro s b3 o e E; replace A := A.f0 e; replace b := b.b0 e; replace c := c.b0 e; replace I := I.l0 e; replace G := G.r0 e; replace J := Aside0.mk (J.out.fr e (fun _ _ h => h)); replace V := V.n0 e; replace Z := Z.a E; clear E e; have j := b.c2; have l := c.c6; have v := o.e6; have U : s ≠ wb ∧ wb ≠ s ∧ s ≠ Y ∧ Y ≠ s := (by have r := Z.out; omega))
       | ((with_reducible refine gate_dst (N := 123) rfl ?_); have C := o.s6 (.int .i64 y.kind) (.string y.text) (.int .i64 y.place) (.int .i64 y.n) (.slice Any y.names.length cny) (.slice Aky y.kids.length cky); clear o; obtain ⟨B, p, e, o⟩ := C; rw [p]; clear p; have r := Z.out; replace A := A.f1 e (by omega); replace b := b.b1 e (by omega); replace c := c.b1 e (by omega); replace I := I.l1 e (fun k hk => by omega); replace G := G.r1 e (fun k hk => by omega); replace J := Aside0.mk (J.out.fr e (fun k hk => (show ¬ (k = s) from by have := a0.out k hk; omega))); replace V := V.n1 e (fun k hk => by omega); clear r; replace Z := Z.k e; clear e; clear j l v U; have j := b.c2; have l := c.c6; have v := o.e6; have U : s ≠ wb ∧ wb ≠ s ∧ s ≠ Y ∧ Y ≠ s := (by have r := Z.out; omega); apply goE 123 Try.func27 (hparts y hym fs us (x.kind == 8) wb q' fv Any Aky As cny cky cs B (by have r := Z.out; omega) (by have r := Z.out; omega) ⟨_, _, b.out, SL.mono I.out (fun k (hk : k < w.heap.size ∧ k ≠ wb ∧ k ≠ q) _ => (show k < B.heap.size ∧ k ≠ wb ∧ k ≠ q' from by have r := Z.out; omega)), G.out⟩ (V.out.mono (fun k (hk : k < w.heap.size ∧ k ≠ wb ∧ k ≠ q) _ => (show k < B.heap.size ∧ k ≠ wb ∧ k ≠ q' from by have r := Z.out; omega))) (J.out.mono (fun k (hk : k < w.heap.size ∧ k ≠ wb ∧ k ≠ q) _ => (show k < B.heap.size ∧ k ≠ wb ∧ k ≠ q' from by have r := Z.out; omega))) hly hay); rintro e_ b4 H; rcases hr_ : SP.part slots fs (x.kind == 8) us y with p_ | acc2; (rw [hr_] at H; obtain ⟨rfl, M⟩ := H; refine Or.inr ⟨_, rfl, ?_⟩; have h2 := HP.out; rw [hr_] at h2; have a9 : rr = .error p_ := h2.symm; clear HP h2; subst a9; exact ⟨rfl, rfl, (A.out.then_ M (fun k (hk : k = wb ∨ k = q') => (show (k = wb ∨ k = q) ∨ w.heap.size ≤ k from by have r := Z.out; omega)))⟩); rw [hr_] at H; obtain ⟨rfl, P, M⟩ := H; refine Or.inl ⟨_, rfl, ?_⟩; replace P := Aside0.mk P; have A := Aside0.mk (A.out.then_ M (fun k (hk : k = wb ∨ k = q') => (show (k = wb ∨ k = q) ∨ w.heap.size ≤ k from by have r := Z.out; omega))); have c := Aside0.mk (M.blk c.out (show ¬ (Y = wb ∨ Y = q') from by have r := Z.out; omega)); replace Z := Aside0.mk (And.intro M.size Z.out); have h2 := HP.out; rw [hr_] at h2; replace HP := Aside0.mk h2; clear h2; clear M b I G J V j l v U; have HL := Aside0.mk (SP.part_len slots _ _ _ _ _ hr_)))
      have p : wrap64 ((i : Int) + 1) = ((i + 1 : Nat) : Int) := by unfold wrap64; omega
      (try rw [p])
      go_roundg k1
      case measure => omega
      case rel =>
       obtain ⟨q'', a6, a1, b5, Al'', cl'', X, hu_⟩ := P.out
       have e2_ : (decide (i + 1 = 0) && decide (x.kind = 7 ∨ x.kind = 8)) = false := by simp
       exact ⟨i + 1, acc2, q'', Al'', cl'', rfl, by omega, ⟨by rw [e2_]; exact HP.out⟩, ⟨by have r := Z.out; have hL := HL.out; have hB := HB.out; omega⟩, ⟨by have r := Z.out; exact ⟨by omega, by omega, by omega, by omega⟩⟩, ⟨X⟩, ⟨hu_⟩, A, c⟩
    ·have e_ : (decide (i = 0) && decide (x.kind = 7 ∨ x.kind = 8)) = false := by rw [decide_eq_false hi0]; rfl
     rw [e_] at h2
     have HP := Aside0.mk h2
     have c2 : ((i : Int) == 0) = false := beq_eq_false_iff_ne.2 (by omega)
     clear h2 e_
     go_wp2_with (first
      | ((with_reducible refine gate_dst (N := 13) rfl ?_); apply boxE 13 #[.int .i64 0, .string ⟨#[]⟩, .int .i64 0, .int .i64 0, .slice none 0 0, .slice none 0 0] 36; intro s b3 o e E; replace A := A.f0 e; replace b := b.b0 e; replace c := c.b0 e; replace I := I.l0 e; replace G := G.r0 e; replace J := Aside0.mk (J.out.fr e (fun _ _ h => h)); replace V := V.n0 e; replace Z := Z.a E; clear E e; have j := b.c2; have l := c.c6; have v := o.e6; have U : s ≠ wb ∧ wb ≠ s ∧ s ≠ Y ∧ Y ≠ s := (by have r := Z.out; omega))
      | ((with_reducible refine gate_dst (N := 123) rfl ?_); have C := o.s6 (.int .i64 y.kind) (.string y.text) (.int .i64 y.place) (.int .i64 y.n) (.slice Any y.names.length cny) (.slice Aky y.kids.length cky); clear o; obtain ⟨B, p, e, o⟩ := C; rw [p]; clear p; have r := Z.out; replace A := A.f1 e (by omega); replace b := b.b1 e (by omega); replace c := c.b1 e (by omega); replace I := I.l1 e (fun k hk => by omega); replace G := G.r1 e (fun k hk => by omega); replace J := Aside0.mk (J.out.fr e (fun k hk => (show ¬ (k = s) from by have := a0.out k hk; omega))); replace V := V.n1 e (fun k hk => by omega); clear r; replace Z := Z.k e; clear e; clear j l v U; have j := b.c2; have l := c.c6; have v := o.e6; have U : s ≠ wb ∧ wb ≠ s ∧ s ≠ Y ∧ Y ≠ s := (by have r := Z.out; omega); apply goE 123 Try.func27 (hparts y hym fs us false wb q' fv Any Aky As cny cky cs B (by have r := Z.out; omega) (by have r := Z.out; omega) ⟨_, _, b.out, SL.mono I.out (fun k (hk : k < w.heap.size ∧ k ≠ wb ∧ k ≠ q) _ => (show k < B.heap.size ∧ k ≠ wb ∧ k ≠ q' from by have r := Z.out; omega)), G.out⟩ (V.out.mono (fun k (hk : k < w.heap.size ∧ k ≠ wb ∧ k ≠ q) _ => (show k < B.heap.size ∧ k ≠ wb ∧ k ≠ q' from by have r := Z.out; omega))) (J.out.mono (fun k (hk : k < w.heap.size ∧ k ≠ wb ∧ k ≠ q) _ => (show k < B.heap.size ∧ k ≠ wb ∧ k ≠ q' from by have r := Z.out; omega))) hly hay); rintro e_ b4 H; rcases hr_ : SP.part slots fs false us y with p_ | acc2; (rw [hr_] at H; obtain ⟨rfl, M⟩ := H; refine Or.inr ⟨_, rfl, ?_⟩; have h2 := HP.out; rw [hr_] at h2; have a9 : rr = .error p_ := h2.symm; clear HP h2; subst a9; exact ⟨rfl, rfl, (A.out.then_ M (fun k (hk : k = wb ∨ k = q') => (show (k = wb ∨ k = q) ∨ w.heap.size ≤ k from by have r := Z.out; omega)))⟩); rw [hr_] at H; obtain ⟨rfl, P, M⟩ := H; refine Or.inl ⟨_, rfl, ?_⟩; replace P := Aside0.mk P; have A := Aside0.mk (A.out.then_ M (fun k (hk : k = wb ∨ k = q') => (show (k = wb ∨ k = q) ∨ w.heap.size ≤ k from by have r := Z.out; omega))); have c := Aside0.mk (M.blk c.out (show ¬ (Y = wb ∨ Y = q') from by have r := Z.out; omega)); replace Z := Aside0.mk (And.intro M.size Z.out); have h2 := HP.out; rw [hr_] at h2; replace HP := Aside0.mk h2; clear h2; clear M b I G J V j l v U; have HL := Aside0.mk (SP.part_len slots _ _ _ _ _ hr_)))
     have p : wrap64 ((i : Int) + 1) = ((i + 1 : Nat) : Int) := by unfold wrap64; omega
     (try rw [p])
     go_roundg k1
     case measure => omega
     case rel =>
      obtain ⟨q'', a6, a1, b5, Al'', cl'', X, hu_⟩ := P.out
      have e2_ : (decide (i + 1 = 0) && decide (x.kind = 7 ∨ x.kind = 8)) = false := by simp
      exact ⟨i + 1, acc2, q'', Al'', cl'', rfl, by omega, ⟨by rw [e2_]; exact HP.out⟩, ⟨by have r := Z.out; have hL := HL.out; have hB := HB.out; omega⟩, ⟨by have r := Z.out; exact ⟨by omega, by omega, by omega, by omega⟩⟩, ⟨X⟩, ⟨hu_⟩, A, c⟩)
theorem scope_part.setTemp {x : SP.Nd} {slots : List ByteArray} {fs : List SP.Fr} {acc : List SP.Use} {wb q : Nat} {fv : Value} {rcv : Bool} {An Ak As : Option Addr} {cn ck cs : Nat} (w : World) (hq : q < w.heap.size) (hqw : q ≠ wb) (hw : WSt (fun k => k < w.heap.size ∧ k ≠ wb ∧ k ≠ q) q w wb As cs slots acc) (hx : NQ (fun k => k < w.heap.size ∧ k ≠ wb ∧ k ≠ q) w x (.slice An x.names.length cn) (.slice Ak x.kids.length ck)) (hfs : Frs (fun k => k < w.heap.size ∧ k ≠ wb ∧ k ≠ q) w fv fs) (hl : fs.length ≤ 1073741824) (ha : acc.length < 1099511627776) (hparts : ∀ y, y ∈ x.kids → PartC y slots) (hl1 : fs.length + SP.cnt x ≤ 1073741824) (ha1 : acc.length + SP.cnt x ≤ 1073741824) (h5 : (x.kind == 5) = false) (hk : (x.kind == 6) = true) (hb : (SP.find slots x.text fs).2 = false) (h3 : ((SP.find slots x.text fs).1.kind != 3) = false) {rr : SP.W} (hrr : Aside0 (SP.parts slots fs (decide (x.kind = 7 ∨ x.kind = 8)) (acc ++ [{ (SP.find slots x.text fs).1 with place := x.place, write := true }]) x.kids = rr)) : Calls Try.prog 27 #[.pointer (some ⟨wb, 0, none⟩), .agg #[.int .i64 x.kind, .string x.text, .int .i64 x.place, .int .i64 x.n, .slice An x.names.length cn, .slice Ak x.kids.length ck], fv, .bool rcv] w (PartA q wb As cs slots.length rr w) := scope_part.set w hq hqw hw hx hfs hl ha hparts hl1 ha1 h5 hk hb hrr (Or.inl h3)
theorem scope_part.setSlot {x : SP.Nd} {slots : List ByteArray} {fs : List SP.Fr} {acc : List SP.Use} {wb q : Nat} {fv : Value} {rcv : Bool} {An Ak As : Option Addr} {cn ck cs : Nat} (w : World) (hq : q < w.heap.size) (hqw : q ≠ wb) (hw : WSt (fun k => k < w.heap.size ∧ k ≠ wb ∧ k ≠ q) q w wb As cs slots acc) (hx : NQ (fun k => k < w.heap.size ∧ k ≠ wb ∧ k ≠ q) w x (.slice An x.names.length cn) (.slice Ak x.kids.length ck)) (hfs : Frs (fun k => k < w.heap.size ∧ k ≠ wb ∧ k ≠ q) w fv fs) (hl : fs.length ≤ 1073741824) (ha : acc.length < 1099511627776) (hparts : ∀ y, y ∈ x.kids → PartC y slots) (hl1 : fs.length + SP.cnt x ≤ 1073741824) (ha1 : acc.length + SP.cnt x ≤ 1073741824) (h5 : (x.kind == 5) = false) (hk : (x.kind == 6) = true) (hb : (SP.find slots x.text fs).2 = false) (h3 : ((SP.find slots x.text fs).1.kind != 3) = true) (h4 : ((SP.find slots x.text fs).1.kind != 4) = false) {rr : SP.W} (hrr : Aside0 (SP.parts slots fs (decide (x.kind = 7 ∨ x.kind = 8)) (acc ++ [{ (SP.find slots x.text fs).1 with place := x.place, write := true }]) x.kids = rr)) : Calls Try.prog 27 #[.pointer (some ⟨wb, 0, none⟩), .agg #[.int .i64 x.kind, .string x.text, .int .i64 x.place, .int .i64 x.n, .slice An x.names.length cn, .slice Ak x.kids.length ck], fv, .bool rcv] w (PartA q wb As cs slots.length rr w) := scope_part.set w hq hqw hw hx hfs hl ha hparts hl1 ha1 h5 hk hb hrr (Or.inr (⟨h3, h4⟩))
end Go.Proofs.Ytpodpmjlkbbkoaa.P
