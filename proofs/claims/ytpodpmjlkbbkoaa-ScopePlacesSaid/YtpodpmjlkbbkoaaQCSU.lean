import Derived.Test.YtpodpmjlkbbkoaaQCSG
import Derived.Test.YtpodpmjlkbbkoaaQCTA
set_option linter.all false
set_option maxHeartbeats 16000000
set_option maxRecDepth 100000
namespace Go.Proofs.Ytpodpmjlkbbkoaa.P
open Go.RowKit Go.Proofs.YtpodpmjlkbbkoaaW.PrintWords Go.Proofs.YtpodpmjlkbbkoaaW.PrintLast Go.Proofs.YtpodpmjlkbbkoaaW.PrintMore
def SP.inUnit (slots : List ByteArray) (x : SP.Nd) (fs : List SP.Fr) (acc : List SP.Use) : SP.W := if SP.okNames [] x.names = true then SP.parts slots ((x.names, x.n) :: fs) false acc x.kids else .error x.place
theorem Frs.ptr {F : Nat → Prop} {w : World} {v : Value} : ∀ {fs : List SP.Fr}, Frs F w v fs → ∃ p, v = .pointer p
 | [], h => ⟨none, h⟩
 | _ :: _, h => by
  obtain ⟨g, _, _, _, _, _, _, _, e, _⟩ := h
  exact ⟨_, e⟩
theorem scope_unit.calls {x : SP.Nd} {slots : List ByteArray} {fs : List SP.Fr} {acc : List SP.Use} {wb q : Nat} {fv : Value} {An Ak As : Option Addr} {cn ck cs : Nat} (w : World) (hq : q < w.heap.size) (hqw : q ≠ wb) (hw : WSt (fun k => k < w.heap.size ∧ k ≠ wb ∧ k ≠ q) q w wb As cs slots acc) (hx : NQ (fun k => k < w.heap.size ∧ k ≠ wb ∧ k ≠ q) w x (.slice An x.names.length cn) (.slice Ak x.kids.length ck)) (hfs : Frs (fun k => k < w.heap.size ∧ k ≠ wb ∧ k ≠ q) w fv fs) (hl : fs.length ≤ 1073741824) (ha : acc.length < 1099511627776) (hparts : ∀ y, y ∈ x.kids → PartC y slots) (hl1 : fs.length + SP.cnt x ≤ 1073741824) (ha1 : acc.length + SP.cnt x ≤ 1073741824) {rr : SP.W} (hrr : Aside0 (SP.inUnit slots x fs acc = rr)) : Calls Try.prog 17 #[.pointer (some ⟨wb, 0, none⟩), .agg #[.int .i64 x.kind, .string x.text, .int .i64 x.place, .int .i64 x.n, .slice An x.names.length cn, .slice Ak x.kids.length ck], fv] w (PartA q wb As cs slots.length rr w) := by
 obtain ⟨fp, rfl⟩ := hfs.ptr
 have hu29 := Try.underlying29
 have hu36 := Try.underlying36
 have I := Aside0.mk (Fr.refl (fun k => k = wb ∨ k = q) w)
 obtain ⟨Al, cl, E, hqs_, hqu_⟩ := hw
 have d := Aside0.mk E
 have U := Aside0.mk hqs_
 have V := Aside0.mk hqu_
 have Y := Aside0.mk hfs
 have A := Aside0.mk hx
 have Z := Aside0.mk (And.intro hq (And.intro hqw (And.intro (blk_lt E) (Nat.le_refl w.heap.size))))
 have b2 := Aside0.mk (show ∀ k, (k < w.heap.size ∧ k ≠ wb ∧ k ≠ q) → (k < w.heap.size ∧ k ≠ wb ∧ k ≠ q) from fun _ h => h)
 clear E hqs_ hqu_ hfs hx hq hqw
 have b7 := U
 have b4 := A
 have b8 := Y
 have hcx := SP.cnt_eq x
 obtain ⟨r, hr_⟩ : ∃ r, r = SP.okNames [] x.names := ⟨_, rfl⟩
 have HO := Aside0.mk hr_.symm
 clear hr_
 go_enter Try.func17, Try.ntmps17
 go_wp2_with (first
  | ((with_reducible refine gate_dst (N := 4) rfl ?_); apply boxE 4 #[.int .i64 x.kind, .string x.text, .int .i64 x.place, .int .i64 x.n, .slice An x.names.length cn, .slice Ak x.kids.length ck] 36; intro g4 v1 l c J; replace I := I.f0 c; replace d := d.b0 c; replace U := U.l0 c; replace V := V.r0 c; replace Y := Aside0.mk (Y.out.fr c (fun _ _ h => h)); replace A := A.n0 c; replace Z := Z.a J; clear J c; have j := d.c2; have p := l.c6)
  | ((with_reducible refine gate_dst (N := 16) rfl ?_); apply boxE 16 #[.int .i64 x.kind, .string x.text, .int .i64 x.place, .int .i64 x.n, .slice An x.names.length cn, .slice Ak x.kids.length ck, .pointer fp] 70; intro e v2 b c J; replace I := I.f0 c; replace d := d.b0 c; replace U := U.l0 c; replace V := V.r0 c; replace Y := Aside0.mk (Y.out.fr c (fun _ _ h => h)); replace A := A.n0 c; replace l := l.b0 c; replace Z := Z.a J; clear J c; clear j p; have j := d.c2; have p := l.c6; have o : v2.cell? ⟨e, 0, none⟩ = some (.int .i64 x.kind) ∧ v2.cell? ⟨e, 1, none⟩ = some (.string x.text) ∧ v2.cell? ⟨e, 2, none⟩ = some (.int .i64 x.place) ∧ v2.cell? ⟨e, 3, none⟩ = some (.int .i64 x.n) ∧ v2.cell? ⟨e, 4, none⟩ = some (.slice An x.names.length cn) ∧ v2.cell? ⟨e, 5, none⟩ = some (.slice Ak x.kids.length ck) ∧ v2.cell? ⟨e, 6, none⟩ = some (.pointer fp) := ⟨(blk_cell b.out 0).trans rfl, (blk_cell b.out 1).trans rfl, (blk_cell b.out 2).trans rfl, (blk_cell b.out 3).trans rfl, (blk_cell b.out 4).trans rfl, (blk_cell b.out 5).trans rfl, (blk_cell b.out 6).trans rfl⟩))
 clear j p o
 go_loopg [23] x.names.length (fun kq b9 w' => ∃ i : Nat, b9 = .int .i64 (i : Int) ∧ i + kq = x.names.length ∧ Aside0 (SP.okNames (x.names.take i) (x.names.drop i) = r) ∧ Aside0 (Fr (fun _ => False) v2 w'))
 case atStart => exact ⟨0, rfl, by simp, ⟨by simpa using HO.out⟩, ⟨Fr.refl _ _⟩⟩
 case round =>
  obtain ⟨i, rfl, hi, HX, L⟩ := hrel
  have M := L
  have c := L.out
  replace I := I.f0 c
  replace d := d.b0 c
  replace U := U.l0 c
  replace V := V.r0 c
  replace Y := Aside0.mk (Y.out.fr c (fun _ _ h => h))
  replace A := A.n0 c
  replace l := l.b0 c
  replace b := b.b0 c
  replace Z := Z.k c
  clear c L
  have j := d.c2
  have p := l.c6
  have o : wr.cell? ⟨e, 0, none⟩ = some (.int .i64 x.kind) ∧ wr.cell? ⟨e, 1, none⟩ = some (.string x.text) ∧ wr.cell? ⟨e, 2, none⟩ = some (.int .i64 x.place) ∧ wr.cell? ⟨e, 3, none⟩ = some (.int .i64 x.n) ∧ wr.cell? ⟨e, 4, none⟩ = some (.slice An x.names.length cn) ∧ wr.cell? ⟨e, 5, none⟩ = some (.slice Ak x.kids.length ck) ∧ wr.cell? ⟨e, 6, none⟩ = some (.pointer fp) := ⟨(blk_cell b.out 0).trans rfl, (blk_cell b.out 1).trans rfl, (blk_cell b.out 2).trans rfl, (blk_cell b.out 3).trans rfl, (blk_cell b.out 4).trans rfl, (blk_cell b.out 5).trans rfl, (blk_cell b.out 6).trans rfl⟩
  cases gk with
  | zero =>
   have c1 : decide ((i : Int) < (x.names.length : Int)) = false := decide_eq_false (by omega)
   have hr1 : r = true := by
    have h2 := HX.out
    rw [List.drop_eq_nil_of_le (by omega)] at h2
    exact h2.symm
   have HPS := hrr.out
   unfold SP.inUnit at HPS
   rw [HO.out, hr1, if_pos rfl] at HPS
   replace HPS := Aside0.mk HPS
   clear HX HO hr1
   rename World => vL
   go_wp2
   have c0_ : decide (i < x.names.length) = false := decide_eq_false (by omega)
   rw [c0_]
   clear c0_ c1
   go_loopg [59] x.kids.length (fun kq c0 w' => ∃ (i : Nat) (us : List SP.Use) (q' : Nat) (Al' : Option Addr) (cl' : Nat), c0 = .int .i64 (i : Int) ∧ i + kq = x.kids.length ∧ Aside0 (SP.parts slots ((x.names, x.n) :: fs) false us (x.kids.drop i) = rr) ∧ Aside0 (us.length + SP.cntL (x.kids.drop i) ≤ 1073741824) ∧ Aside0 ((q' = q ∨ w.heap.size ≤ q') ∧ q' ≠ wb ∧ q' ≠ e ∧ q' < w'.heap.size) ∧ Aside0 (w'.heap[wb]? = some (.cells #[.slice As slots.length cs, .slice Al' us.length cl'] 53 (0, 0))) ∧ Aside0 (kUse.R 29 w' 0 (fun k => k = q') (.slice Al' us.length cl') us) ∧ Aside0 (Fr (fun k => k = wb ∨ k = q) w w') ∧ Aside0 (w'.heap[e]? = some (.cells #[.int .i64 x.kind, .string x.text, .int .i64 x.place, .int .i64 x.n, .slice An x.names.length cn, .slice Ak x.kids.length ck, .pointer fp] 70 (0, 0))))
   case atStart => exact ⟨0, acc, q, Al, cl, rfl, by simp, ⟨by rw [List.drop_zero]; exact HPS.out⟩, ⟨by rw [List.drop_zero]; omega⟩, ⟨by have C := Z.out; exact ⟨.inl rfl, by omega, by omega, by omega⟩⟩, d, V, I, b⟩
   case round =>
    obtain ⟨i, us, q', Al', cl', rfl, hi, HP, HB, HQ, a1, b5, L, a6⟩ := hrel
    cases gk with
    | zero =>
     have c1 : decide ((i : Int) < (x.kids.length : Int)) = false := decide_eq_false (by omega)
     go_wp2
     have h2 := HP.out
     rw [List.drop_eq_nil_of_le (by omega)] at h2
     simp only [SP.parts] at h2
     clear hrr HPS HP
     subst h2
     show bodyPost _ _ _ Exit.normal _ _
     refine bodyPost_end (results_none rfl _ _ _) rfl ?_
     exact ⟨rfl, ⟨q', HQ.out.1, HQ.out.2.1, HQ.out.2.2.2, _, _, a1.out, b5.out⟩, L.out⟩
    | succ k1 =>
     have T : i < x.kids.length := by omega
     have c1 : decide ((i : Int) < (x.kids.length : Int)) = true := decide_eq_true (by omega)
     obtain ⟨y, hy⟩ : ∃ y, x.kids[i]? = some y := ⟨_, List.getElem?_eq_getElem T⟩
     have hd : x.kids.drop i = y :: x.kids.drop (i + 1) := by
      rw [List.drop_eq_getElem_cons T]
      congr 1
      have := List.getElem?_eq_getElem T
      rw [this] at hy
      exact Option.some.inj hy
     have hym : y ∈ x.kids := List.mem_of_getElem? hy
     have hcy_ := SP.cnt_mem hym
     have a2 := HB.out
     rw [hd] at a2
     simp only [SP.cntL] at a2
     have hly : ((x.names, x.n) :: fs).length + SP.cnt y ≤ 1073741824 := by rw [List.length_cons]; omega
     have hay : us.length + SP.cnt y ≤ 1073741824 := by omega
     replace HB := Aside0.mk a2
     have hkl_ : x.kids.length < 9223372036854775807 := by have h_ := SP.len_cnt x.kids; omega
     clear a2 hcy_
     obtain ⟨hq1, hq2, hq3, hq4⟩ := HQ.out
     have Z := Aside0.mk (And.intro hq1 (And.intro hq2 (And.intro hq3 (And.intro hq4 (And.intro L.out.size (And.intro (blk_lt a1.out) (And.intro (blk_lt a6.out) Z.out)))))))
     have K2 := L.out
     obtain ⟨ad, Any, cny, Aky, cky, eA, hny, hcy⟩ := kid_at (K2.Q b4.out.2 (fun k (hk : k < w.heap.size ∧ k ≠ wb ∧ k ≠ q) => (show ¬ (k = wb ∨ k = q) from by omega))) i y hy
     have QN := Aside0.mk (K2.Q b4.out.1 (fun k (hk : k < w.heap.size ∧ k ≠ wb ∧ k ≠ q) => (show ¬ (k = wb ∨ k = q) from by omega)))
     have U := Aside0.mk (SL.fr b7.out K2 (fun k (hk : k < w.heap.size ∧ k ≠ wb ∧ k ≠ q) => (show ¬ (k = wb ∨ k = q) from by omega)))
     have Y := Aside0.mk (b8.out.fr K2 (fun k (hk : k < w.heap.size ∧ k ≠ wb ∧ k ≠ q) => (show ¬ (k = wb ∨ k = q) from by omega)))
     subst eA
     have hk0 : wr.cell? (ad.add (i * 6)) = some (.int .i64 y.kind) := hcy 0 _ rfl
     have hk1 : wr.cell? ⟨(ad.add (i * 6)).block, (ad.add (i * 6)).off + 1, none⟩ = some (.string y.text) := by rw [← add_field _ _ 1 (by decide)]; exact hcy 1 _ rfl
     have hk2 : wr.cell? ⟨(ad.add (i * 6)).block, (ad.add (i * 6)).off + 2, none⟩ = some (.int .i64 y.place) := by rw [← add_field _ _ 2 (by decide)]; exact hcy 2 _ rfl
     have hk3 : wr.cell? ⟨(ad.add (i * 6)).block, (ad.add (i * 6)).off + 3, none⟩ = some (.int .i64 y.n) := by rw [← add_field _ _ 3 (by decide)]; exact hcy 3 _ rfl
     have hk4 : wr.cell? ⟨(ad.add (i * 6)).block, (ad.add (i * 6)).off + 4, none⟩ = some (.slice Any y.names.length cny) := by rw [← add_field _ _ 4 (by decide)]; exact hcy 4 _ rfl
     have hk5 : wr.cell? ⟨(ad.add (i * 6)).block, (ad.add (i * 6)).off + 5, none⟩ = some (.slice Aky y.kids.length cky) := by rw [← add_field _ _ 5 (by decide)]; exact hcy 5 _ rfl
     have d := a1
     have V := b5
     have I := L
     have b := a6
     have a4 := Aside0.mk hny
     have h2 := HP.out
     rw [hd] at h2
     simp only [SP.parts] at h2
     replace HP := Aside0.mk h2
     clear h2 hny hcy a1 b5 L a6 b4 b7 b8 hd hy hq1 hq2 hq3 hq4 K2 HQ
     go_wp2_with (first
      | ((with_reducible refine gate_dst (N := 12) rfl ?_); apply boxE 12 #[.int .i64 0, .string ⟨#[]⟩, .int .i64 0, .int .i64 0, .slice none 0 0, .slice none 0 0] 36; intro P H K c J; replace I := I.f0 c; replace d := d.b0 c; replace b := b.b0 c; replace U := U.l0 c; replace V := V.r0 c; replace Y := Aside0.mk (Y.out.fr c (fun _ _ h => h)); replace a4 := a4.n0 c; replace QN := QN.q0 c; replace Z := Z.a J; clear J c; have j := d.c2; have o : H.cell? ⟨e, 0, none⟩ = some (.int .i64 x.kind) ∧ H.cell? ⟨e, 1, none⟩ = some (.string x.text) ∧ H.cell? ⟨e, 2, none⟩ = some (.int .i64 x.place) ∧ H.cell? ⟨e, 3, none⟩ = some (.int .i64 x.n) ∧ H.cell? ⟨e, 4, none⟩ = some (.slice An x.names.length cn) ∧ H.cell? ⟨e, 5, none⟩ = some (.slice (some ad) x.kids.length ck) ∧ H.cell? ⟨e, 6, none⟩ = some (.pointer fp) := ⟨(blk_cell b.out 0).trans rfl, (blk_cell b.out 1).trans rfl, (blk_cell b.out 2).trans rfl, (blk_cell b.out 3).trans rfl, (blk_cell b.out 4).trans rfl, (blk_cell b.out 5).trans rfl, (blk_cell b.out 6).trans rfl⟩; have S := K.e6; have F : P ≠ wb ∧ wb ≠ P ∧ P ≠ e ∧ e ≠ P := (by have C := Z.out; omega))
      | ((with_reducible refine gate_dst (N := 66) rfl ?_); have a0 := K.s6 (.int .i64 y.kind) (.string y.text) (.int .i64 y.place) (.int .i64 y.n) (.slice Any y.names.length cny) (.slice Aky y.kids.length cky); clear K; obtain ⟨G, X, c, K⟩ := a0; rw [X]; clear X; have C := Z.out; replace I := I.f1 c (by omega); replace d := d.b1 c (by omega); replace b := b.b1 c (by omega); replace U := U.l1 c (fun k hk => by omega); replace V := V.r1 c (fun k hk => by omega); replace Y := Aside0.mk (Y.out.fr c (fun k hk => (show ¬ (k = P) from by have := b2.out k hk; omega))); replace a4 := a4.n1 c (fun k hk => by omega); replace QN := QN.q1 c (fun k hk => by omega); clear C; replace Z := Z.k c; clear c; clear j o S F; have j := d.c2; have o : G.cell? ⟨e, 0, none⟩ = some (.int .i64 x.kind) ∧ G.cell? ⟨e, 1, none⟩ = some (.string x.text) ∧ G.cell? ⟨e, 2, none⟩ = some (.int .i64 x.place) ∧ G.cell? ⟨e, 3, none⟩ = some (.int .i64 x.n) ∧ G.cell? ⟨e, 4, none⟩ = some (.slice An x.names.length cn) ∧ G.cell? ⟨e, 5, none⟩ = some (.slice (some ad) x.kids.length ck) ∧ G.cell? ⟨e, 6, none⟩ = some (.pointer fp) := ⟨(blk_cell b.out 0).trans rfl, (blk_cell b.out 1).trans rfl, (blk_cell b.out 2).trans rfl, (blk_cell b.out 3).trans rfl, (blk_cell b.out 4).trans rfl, (blk_cell b.out 5).trans rfl, (blk_cell b.out 6).trans rfl⟩; have S := K.e6; have F : P ≠ wb ∧ wb ≠ P ∧ P ≠ e ∧ e ≠ P := (by have C := Z.out; omega); apply goE 66 Try.func27 (hparts y hym ((x.names, x.n) :: fs) us false wb q' (.pointer (some ⟨e, 0, none⟩)) Any Aky As cny cky cs G (by have C := Z.out; omega) (by have C := Z.out; omega) ⟨_, _, d.out, SL.mono U.out (fun k (hk : k < w.heap.size ∧ k ≠ wb ∧ k ≠ q) _ => (show k < G.heap.size ∧ k ≠ wb ∧ k ≠ q' from by have C := Z.out; omega)), V.out⟩ (a4.out.mono (fun k (hk : k < w.heap.size ∧ k ≠ wb ∧ k ≠ q) _ => (show k < G.heap.size ∧ k ≠ wb ∧ k ≠ q' from by have C := Z.out; omega))) ⟨e, _, _, _, _, _, _, .pointer fp, rfl, (show e < G.heap.size ∧ e ≠ wb ∧ e ≠ q' from by have C := Z.out; omega), b.out, Q_mono' QN.out (fun k (hk : k < w.heap.size ∧ k ≠ wb ∧ k ≠ q) _ => (show k < G.heap.size ∧ k ≠ wb ∧ k ≠ q' from by have C := Z.out; omega)), Y.out.mono (fun k (hk : k < w.heap.size ∧ k ≠ wb ∧ k ≠ q) _ => (show k < G.heap.size ∧ k ≠ wb ∧ k ≠ q' from by have C := Z.out; omega))⟩ hly hay); rintro e_ c4 b3; rcases hr_ : SP.part slots ((x.names, x.n) :: fs) false us y with p_ | acc2; (rw [hr_] at b3; obtain ⟨rfl, a5⟩ := b3; refine Or.inr ⟨_, rfl, ?_⟩; have h2 := HP.out; rw [hr_] at h2; have c3 : rr = .error p_ := h2.symm; clear HP h2 hrr; subst c3; exact ⟨rfl, rfl, (I.out.then_ a5 (fun k (hk : k = wb ∨ k = q') => (show (k = wb ∨ k = q) ∨ w.heap.size ≤ k from by have C := Z.out; omega)))⟩); rw [hr_] at b3; obtain ⟨rfl, b6, a5⟩ := b3; refine Or.inl ⟨_, rfl, ?_⟩; replace b6 := Aside0.mk b6; have I := Aside0.mk (I.out.then_ a5 (fun k (hk : k = wb ∨ k = q') => (show (k = wb ∨ k = q) ∨ w.heap.size ≤ k from by have C := Z.out; omega))); have b := Aside0.mk (a5.blk b.out (show ¬ (e = wb ∨ e = q') from by have C := Z.out; omega)); replace Z := Aside0.mk (And.intro a5.size Z.out); have h2 := HP.out; rw [hr_] at h2; replace HP := Aside0.mk h2; clear h2; clear a5 d U V Y a4 QN; clear j o S F; have HL := Aside0.mk (SP.part_len slots _ _ _ _ _ hr_)))
     have X : wrap64 ((i : Int) + 1) = ((i + 1 : Nat) : Int) := by unfold wrap64; omega
     (try rw [X])
     go_roundg k1
     case measure => omega
     case rel =>
      obtain ⟨q'', c8, c5, c7, Al'', cl'', E, hu_⟩ := b6.out
      exact ⟨i + 1, acc2, q'', Al'', cl'', rfl, by omega, HP, ⟨by have C := Z.out; have hL := HL.out; have hB := HB.out; omega⟩, ⟨by have C := Z.out; exact ⟨by omega, by omega, by omega, by omega⟩⟩, ⟨E⟩, ⟨hu_⟩, I, b⟩
  | succ k1 =>
   have c1 : decide ((i : Int) < (x.names.length : Int)) = true := decide_eq_true (by omega)
   obtain ⟨ad, eA, a7⟩ := Kd.at_string (Kd.Q_reads' A.out.1).2.2 i (by omega) (by omega)
   simp only [Int.toNat_natCast] at a7
   have T : i < x.names.length := by omega
   have hd : x.names.drop i = rdOf ByteArray.empty x.names i :: x.names.drop (i + 1) := by
    rw [List.drop_eq_getElem_cons T]
    congr 1
    simp [rdOf, T]
   obtain ⟨s, hs⟩ : ∃ s, s = rdOf ByteArray.empty x.names i := ⟨_, rfl⟩
   rw [← hs] at a7 hd
   have ht : x.names.take i ++ [s] = x.names.take (i + 1) := by
    rw [List.take_succ_eq_append_getElem T, hs]
    congr 2
    simp [rdOf, T]
   have hkl_ := Kd.C_max (Kd.Q_reads' A.out.1).2.2
   have a3 : (x.names.take i).length = i := by rw [List.length_take]; omega
   have h2 := HX.out
   rw [hd] at h2
   simp only [SP.okNames] at h2
   rw [ht] at h2
   replace HX := Aside0.mk h2
   clear h2 hd ht hs
   have hcn : i ≤ cn := by have h_ := (Kd.Q_reads' A.out.1).2.1; omega
   subst eA
   cases hf : (SP.fixed s).isSome with
   | true =>
    have hr1 : r = false := by
     have h2 := HX.out
     cases hfx : SP.fixed s with
     | none => rw [hfx] at hf; cases hf
     | some v => rw [hfx] at h2; exact h2.symm
    have e1 : rr = .error x.place := by rw [← hrr.out]; unfold SP.inUnit; rw [HO.out, hr1]; rfl
    clear HX HO hrr
    subst e1
    go_wp2_with (first
     | ((with_reducible refine gate_dst (N := 30) rfl ?_); apply goE 30 Try.func25 (scope_fixed.calls s wr); rintro e_ t ⟨rfl, E⟩; refine Or.inl ⟨_, rfl, ?_⟩; have c : Fr (fun _ => False) wr t := Fr.of_below E; replace I := I.f0 c; replace d := d.b0 c; replace U := U.l0 c; replace V := V.r0 c; replace Y := Aside0.mk (Y.out.fr c (fun _ _ h => h)); replace A := A.n0 c; replace l := l.b0 c; replace b := b.b0 c; replace Z := Z.k c; replace M := M.f0 c; clear c E; clear j p o; have j := d.c2; have p := l.c6; have o : t.cell? ⟨e, 0, none⟩ = some (.int .i64 x.kind) ∧ t.cell? ⟨e, 1, none⟩ = some (.string x.text) ∧ t.cell? ⟨e, 2, none⟩ = some (.int .i64 x.place) ∧ t.cell? ⟨e, 3, none⟩ = some (.int .i64 x.n) ∧ t.cell? ⟨e, 4, none⟩ = some (.slice (some ad) x.names.length cn) ∧ t.cell? ⟨e, 5, none⟩ = some (.slice Ak x.kids.length ck) ∧ t.cell? ⟨e, 6, none⟩ = some (.pointer fp) := ⟨(blk_cell b.out 0).trans rfl, (blk_cell b.out 1).trans rfl, (blk_cell b.out 2).trans rfl, (blk_cell b.out 3).trans rfl, (blk_cell b.out 4).trans rfl, (blk_cell b.out 5).trans rfl, (blk_cell b.out 6).trans rfl⟩)
     | ((with_reducible refine gate_dst (N := 9) rfl ?_); apply boxE 9 #[.int .i64 0, .string ⟨#[]⟩, .int .i64 0, .int .i64 0, .int .i64 0, .bool false] 29; intro D z B c J; replace I := I.f0 c; replace d := d.b0 c; replace U := U.l0 c; replace V := V.r0 c; replace Y := Aside0.mk (Y.out.fr c (fun _ _ h => h)); replace A := A.n0 c; replace l := l.b0 c; replace b := b.b0 c; replace Z := Z.a J; have a8 := c; clear J c; clear j p o; have j := d.c2; have p := l.c6; have o : z.cell? ⟨e, 0, none⟩ = some (.int .i64 x.kind) ∧ z.cell? ⟨e, 1, none⟩ = some (.string x.text) ∧ z.cell? ⟨e, 2, none⟩ = some (.int .i64 x.place) ∧ z.cell? ⟨e, 3, none⟩ = some (.int .i64 x.n) ∧ z.cell? ⟨e, 4, none⟩ = some (.slice (some ad) x.names.length cn) ∧ z.cell? ⟨e, 5, none⟩ = some (.slice Ak x.kids.length ck) ∧ z.cell? ⟨e, 6, none⟩ = some (.pointer fp) := ⟨(blk_cell b.out 0).trans rfl, (blk_cell b.out 1).trans rfl, (blk_cell b.out 2).trans rfl, (blk_cell b.out 3).trans rfl, (blk_cell b.out 4).trans rfl, (blk_cell b.out 5).trans rfl, (blk_cell b.out 6).trans rfl⟩; have O := B.e6; have F : D ≠ wb ∧ wb ≠ D ∧ D ≠ g4 ∧ g4 ≠ D ∧ D ≠ e ∧ e ≠ D := (by have C := Z.out; omega); replace M := M.f0 a8))
    have a0 := B.s6 (.int .i64 0) (.string s) (.int .i64 ((SP.fixed s).getD (0, 0)).1) (.int .i64 0) (.int .i64 ((SP.fixed s).getD (0, 0)).2) (.bool false)
    clear B
    obtain ⟨u, X, c, B⟩ := a0
    rw [X]
    clear X
    have C := Z.out
    replace I := I.f1 c (by omega)
    replace d := d.b1 c (by omega)
    replace U := U.l1 c (fun k hk => by omega)
    replace V := V.r1 c (fun k hk => by omega)
    replace Y := Aside0.mk (Y.out.fr c (fun k hk => (show ¬ (k = D) from by have := b2.out k hk; omega)))
    replace A := A.n1 c (fun k hk => by omega)
    replace l := l.b1 c (by omega)
    replace b := b.b1 c (by omega)
    clear C
    replace Z := Z.k c
    clear c
    clear j p o O F
    have j := d.c2
    have p := l.c6
    have o : u.cell? ⟨e, 0, none⟩ = some (.int .i64 x.kind) ∧ u.cell? ⟨e, 1, none⟩ = some (.string x.text) ∧ u.cell? ⟨e, 2, none⟩ = some (.int .i64 x.place) ∧ u.cell? ⟨e, 3, none⟩ = some (.int .i64 x.n) ∧ u.cell? ⟨e, 4, none⟩ = some (.slice (some ad) x.names.length cn) ∧ u.cell? ⟨e, 5, none⟩ = some (.slice Ak x.kids.length ck) ∧ u.cell? ⟨e, 6, none⟩ = some (.pointer fp) := ⟨(blk_cell b.out 0).trans rfl, (blk_cell b.out 1).trans rfl, (blk_cell b.out 2).trans rfl, (blk_cell b.out 3).trans rfl, (blk_cell b.out 4).trans rfl, (blk_cell b.out 5).trans rfl, (blk_cell b.out 6).trans rfl⟩
    have O := B.e6
    have F : D ≠ wb ∧ wb ≠ D ∧ D ≠ g4 ∧ g4 ≠ D ∧ D ≠ e ∧ e ≠ D := (by have C := Z.out; omega)
    exact ⟨rfl, rfl, I.out⟩
   | false =>
    have hni : (SP.fixed s).isNone = true := by
     cases hfx : SP.fixed s with
     | none => rfl
     | some v => rw [hfx] at hf; cases hf
    cases hcs : (x.names.take i).contains s with
    | true =>
     have hr1 : r = false := by
      have h2 := HX.out
      rw [hcs] at h2
      rw [← h2]
      simp
     have e1 : rr = .error x.place := by rw [← hrr.out]; unfold SP.inUnit; rw [HO.out, hr1]; rfl
     clear HX HO hrr
     subst e1
     go_wp2_with (first
      | ((with_reducible refine gate_dst (N := 30) rfl ?_); apply goE 30 Try.func25 (scope_fixed.calls s wr); rintro e_ t ⟨rfl, E⟩; refine Or.inl ⟨_, rfl, ?_⟩; have c : Fr (fun _ => False) wr t := Fr.of_below E; replace I := I.f0 c; replace d := d.b0 c; replace U := U.l0 c; replace V := V.r0 c; replace Y := Aside0.mk (Y.out.fr c (fun _ _ h => h)); replace A := A.n0 c; replace l := l.b0 c; replace b := b.b0 c; replace Z := Z.k c; replace M := M.f0 c; clear c E; clear j p o; have j := d.c2; have p := l.c6; have o : t.cell? ⟨e, 0, none⟩ = some (.int .i64 x.kind) ∧ t.cell? ⟨e, 1, none⟩ = some (.string x.text) ∧ t.cell? ⟨e, 2, none⟩ = some (.int .i64 x.place) ∧ t.cell? ⟨e, 3, none⟩ = some (.int .i64 x.n) ∧ t.cell? ⟨e, 4, none⟩ = some (.slice (some ad) x.names.length cn) ∧ t.cell? ⟨e, 5, none⟩ = some (.slice Ak x.kids.length ck) ∧ t.cell? ⟨e, 6, none⟩ = some (.pointer fp) := ⟨(blk_cell b.out 0).trans rfl, (blk_cell b.out 1).trans rfl, (blk_cell b.out 2).trans rfl, (blk_cell b.out 3).trans rfl, (blk_cell b.out 4).trans rfl, (blk_cell b.out 5).trans rfl, (blk_cell b.out 6).trans rfl⟩)
      | ((with_reducible refine gate_dst (N := 9) rfl ?_); apply boxE 9 #[.int .i64 0, .string ⟨#[]⟩, .int .i64 0, .int .i64 0, .int .i64 0, .bool false] 29; intro D z B c J; replace I := I.f0 c; replace d := d.b0 c; replace U := U.l0 c; replace V := V.r0 c; replace Y := Aside0.mk (Y.out.fr c (fun _ _ h => h)); replace A := A.n0 c; replace l := l.b0 c; replace b := b.b0 c; replace Z := Z.a J; have a8 := c; clear J c; clear j p o; have j := d.c2; have p := l.c6; have o : z.cell? ⟨e, 0, none⟩ = some (.int .i64 x.kind) ∧ z.cell? ⟨e, 1, none⟩ = some (.string x.text) ∧ z.cell? ⟨e, 2, none⟩ = some (.int .i64 x.place) ∧ z.cell? ⟨e, 3, none⟩ = some (.int .i64 x.n) ∧ z.cell? ⟨e, 4, none⟩ = some (.slice (some ad) x.names.length cn) ∧ z.cell? ⟨e, 5, none⟩ = some (.slice Ak x.kids.length ck) ∧ z.cell? ⟨e, 6, none⟩ = some (.pointer fp) := ⟨(blk_cell b.out 0).trans rfl, (blk_cell b.out 1).trans rfl, (blk_cell b.out 2).trans rfl, (blk_cell b.out 3).trans rfl, (blk_cell b.out 4).trans rfl, (blk_cell b.out 5).trans rfl, (blk_cell b.out 6).trans rfl⟩; have O := B.e6; have F : D ≠ wb ∧ wb ≠ D ∧ D ≠ g4 ∧ g4 ≠ D ∧ D ≠ e ∧ e ≠ D := (by have C := Z.out; omega); replace M := M.f0 a8)
      | ((with_reducible refine gate_dst (N := 43) rfl ?_); (try (refine gate_guard (by rfl) ?_; dsimp only)); have a0 := B.s6 (.int .i64 0) (.string s) (.int .i64 ((SP.fixed s).getD (0, 0)).1) (.int .i64 0) (.int .i64 ((SP.fixed s).getD (0, 0)).2) (.bool false); clear B; obtain ⟨u, X, c, B⟩ := a0; rw [X]; clear X; have C := Z.out; replace I := I.f1 c (by omega); replace d := d.b1 c (by omega); replace U := U.l1 c (fun k hk => by omega); replace V := V.r1 c (fun k hk => by omega); replace Y := Aside0.mk (Y.out.fr c (fun k hk => (show ¬ (k = D) from by have := b2.out k hk; omega))); replace A := A.n1 c (fun k hk => by omega); replace l := l.b1 c (by omega); replace b := b.b1 c (by omega); clear C; replace Z := Z.k c; have a9 := c; clear c; clear j p o O F; have j := d.c2; have p := l.c6; have o : u.cell? ⟨e, 0, none⟩ = some (.int .i64 x.kind) ∧ u.cell? ⟨e, 1, none⟩ = some (.string x.text) ∧ u.cell? ⟨e, 2, none⟩ = some (.int .i64 x.place) ∧ u.cell? ⟨e, 3, none⟩ = some (.int .i64 x.n) ∧ u.cell? ⟨e, 4, none⟩ = some (.slice (some ad) x.names.length cn) ∧ u.cell? ⟨e, 5, none⟩ = some (.slice Ak x.kids.length ck) ∧ u.cell? ⟨e, 6, none⟩ = some (.pointer fp) := ⟨(blk_cell b.out 0).trans rfl, (blk_cell b.out 1).trans rfl, (blk_cell b.out 2).trans rfl, (blk_cell b.out 3).trans rfl, (blk_cell b.out 4).trans rfl, (blk_cell b.out 5).trans rfl, (blk_cell b.out 6).trans rfl⟩; have O := B.e6; have F : D ≠ wb ∧ wb ≠ D ∧ D ≠ g4 ∧ g4 ≠ D ∧ D ≠ e ∧ e ≠ D := (by have C := Z.out; omega); replace M := Aside0.mk (M.out.then_ a9 (fun k (hk : k = D) => (show False ∨ v2.heap.size ≤ k from by have C := Z.out; omega))); obtain ⟨hr1_, hr2_, hr3_⟩ := Kd.Q_reads' A.out.1; have hct_ := Kd.C_take hr3_ (m := i) (by omega); have hcon_ := slices_contains.calls s u hct_ (by rw [a3]; omega); rw [a3] at hcon_; apply goE 43 Try.func26 hcon_; clear hcon_ hct_ hr1_ hr2_ hr3_; rintro e_ w_ ⟨rfl, rfl⟩; refine Or.inl ⟨_, rfl, ?_⟩; rw [idxI_mem]))
     exact ⟨rfl, rfl, I.out⟩
    | false =>
     have h2 := HX.out
     rw [hcs, hni] at h2
     replace HX := Aside0.mk h2
     clear h2
     go_wp2_with (first
      | ((with_reducible refine gate_dst (N := 30) rfl ?_); apply goE 30 Try.func25 (scope_fixed.calls s wr); rintro e_ t ⟨rfl, E⟩; refine Or.inl ⟨_, rfl, ?_⟩; have c : Fr (fun _ => False) wr t := Fr.of_below E; replace I := I.f0 c; replace d := d.b0 c; replace U := U.l0 c; replace V := V.r0 c; replace Y := Aside0.mk (Y.out.fr c (fun _ _ h => h)); replace A := A.n0 c; replace l := l.b0 c; replace b := b.b0 c; replace Z := Z.k c; replace M := M.f0 c; clear c E; clear j p o; have j := d.c2; have p := l.c6; have o : t.cell? ⟨e, 0, none⟩ = some (.int .i64 x.kind) ∧ t.cell? ⟨e, 1, none⟩ = some (.string x.text) ∧ t.cell? ⟨e, 2, none⟩ = some (.int .i64 x.place) ∧ t.cell? ⟨e, 3, none⟩ = some (.int .i64 x.n) ∧ t.cell? ⟨e, 4, none⟩ = some (.slice (some ad) x.names.length cn) ∧ t.cell? ⟨e, 5, none⟩ = some (.slice Ak x.kids.length ck) ∧ t.cell? ⟨e, 6, none⟩ = some (.pointer fp) := ⟨(blk_cell b.out 0).trans rfl, (blk_cell b.out 1).trans rfl, (blk_cell b.out 2).trans rfl, (blk_cell b.out 3).trans rfl, (blk_cell b.out 4).trans rfl, (blk_cell b.out 5).trans rfl, (blk_cell b.out 6).trans rfl⟩)
      | ((with_reducible refine gate_dst (N := 9) rfl ?_); apply boxE 9 #[.int .i64 0, .string ⟨#[]⟩, .int .i64 0, .int .i64 0, .int .i64 0, .bool false] 29; intro D z B c J; replace I := I.f0 c; replace d := d.b0 c; replace U := U.l0 c; replace V := V.r0 c; replace Y := Aside0.mk (Y.out.fr c (fun _ _ h => h)); replace A := A.n0 c; replace l := l.b0 c; replace b := b.b0 c; replace Z := Z.a J; have a8 := c; clear J c; clear j p o; have j := d.c2; have p := l.c6; have o : z.cell? ⟨e, 0, none⟩ = some (.int .i64 x.kind) ∧ z.cell? ⟨e, 1, none⟩ = some (.string x.text) ∧ z.cell? ⟨e, 2, none⟩ = some (.int .i64 x.place) ∧ z.cell? ⟨e, 3, none⟩ = some (.int .i64 x.n) ∧ z.cell? ⟨e, 4, none⟩ = some (.slice (some ad) x.names.length cn) ∧ z.cell? ⟨e, 5, none⟩ = some (.slice Ak x.kids.length ck) ∧ z.cell? ⟨e, 6, none⟩ = some (.pointer fp) := ⟨(blk_cell b.out 0).trans rfl, (blk_cell b.out 1).trans rfl, (blk_cell b.out 2).trans rfl, (blk_cell b.out 3).trans rfl, (blk_cell b.out 4).trans rfl, (blk_cell b.out 5).trans rfl, (blk_cell b.out 6).trans rfl⟩; have O := B.e6; have F : D ≠ wb ∧ wb ≠ D ∧ D ≠ g4 ∧ g4 ≠ D ∧ D ≠ e ∧ e ≠ D := (by have C := Z.out; omega); replace M := M.f0 a8)
      | ((with_reducible refine gate_dst (N := 43) rfl ?_); (try (refine gate_guard (by rfl) ?_; dsimp only)); have a0 := B.s6 (.int .i64 0) (.string s) (.int .i64 ((SP.fixed s).getD (0, 0)).1) (.int .i64 0) (.int .i64 ((SP.fixed s).getD (0, 0)).2) (.bool false); clear B; obtain ⟨u, X, c, B⟩ := a0; rw [X]; clear X; have C := Z.out; replace I := I.f1 c (by omega); replace d := d.b1 c (by omega); replace U := U.l1 c (fun k hk => by omega); replace V := V.r1 c (fun k hk => by omega); replace Y := Aside0.mk (Y.out.fr c (fun k hk => (show ¬ (k = D) from by have := b2.out k hk; omega))); replace A := A.n1 c (fun k hk => by omega); replace l := l.b1 c (by omega); replace b := b.b1 c (by omega); clear C; replace Z := Z.k c; have a9 := c; clear c; clear j p o O F; have j := d.c2; have p := l.c6; have o : u.cell? ⟨e, 0, none⟩ = some (.int .i64 x.kind) ∧ u.cell? ⟨e, 1, none⟩ = some (.string x.text) ∧ u.cell? ⟨e, 2, none⟩ = some (.int .i64 x.place) ∧ u.cell? ⟨e, 3, none⟩ = some (.int .i64 x.n) ∧ u.cell? ⟨e, 4, none⟩ = some (.slice (some ad) x.names.length cn) ∧ u.cell? ⟨e, 5, none⟩ = some (.slice Ak x.kids.length ck) ∧ u.cell? ⟨e, 6, none⟩ = some (.pointer fp) := ⟨(blk_cell b.out 0).trans rfl, (blk_cell b.out 1).trans rfl, (blk_cell b.out 2).trans rfl, (blk_cell b.out 3).trans rfl, (blk_cell b.out 4).trans rfl, (blk_cell b.out 5).trans rfl, (blk_cell b.out 6).trans rfl⟩; have O := B.e6; have F : D ≠ wb ∧ wb ≠ D ∧ D ≠ g4 ∧ g4 ≠ D ∧ D ≠ e ∧ e ≠ D := (by have C := Z.out; omega); replace M := Aside0.mk (M.out.then_ a9 (fun k (hk : k = D) => (show False ∨ v2.heap.size ≤ k from by have C := Z.out; omega))); obtain ⟨hr1_, hr2_, hr3_⟩ := Kd.Q_reads' A.out.1; have hct_ := Kd.C_take hr3_ (m := i) (by omega); have hcon_ := slices_contains.calls s u hct_ (by rw [a3]; omega); rw [a3] at hcon_; apply goE 43 Try.func26 hcon_; clear hcon_ hct_ hr1_ hr2_ hr3_; rintro e_ w_ ⟨rfl, rfl⟩; refine Or.inl ⟨_, rfl, ?_⟩; rw [idxI_mem]))
     have X : wrap64 ((i : Int) + 1) = ((i + 1 : Nat) : Int) := by unfold wrap64; omega
     (try rw [X])
     go_roundg k1
     case measure => omega
     case rel => exact ⟨i + 1, rfl, by omega, ⟨by simpa using HX.out⟩, M⟩
end Go.Proofs.Ytpodpmjlkbbkoaa.P
