import Derived.Test.YtpodpmjlkbbkoaaQCPF
import Derived.Test.YtpodpmjlkbbkoaaQCTY
import Derived.Test.YtpodpmjlkbbkoaaQCRN
import Derived.Test.YtpodpmjlkbbkoaaQCSX
import Derived.Test.YtpodpmjlkbbkoaaQCTA
set_option linter.all false
namespace Go.Proofs.Ytpodpmjlkbbkoaa.P
open Go.RowKit Go.Proofs.YtpodpmjlkbbkoaaW.PrintWords Go.Proofs.YtpodpmjlkbbkoaaW.PrintLast Go.Proofs.YtpodpmjlkbbkoaaW.PrintMore
section
variable {ok : List UInt8 → Bool} {l : List UInt8} {o : Nat} {ts : List PL.Tk}
theorem rd_wf {P : ByteArray → Int → Prop} (h : PL.Rd ok l o ts) (hP : ∀ t ∈ ts, t.kind = 1 → P ⟨t.text.toArray⟩ (t.place : Int)) : SP.WF P (ts.map tk) := by
 induction h with
 | nil o => exact ⟨fun h => absurd h (show ¬ ((0 : Nat) : Int) = 1 from by decide), Or.inl rfl⟩
 | blank h k ih => exact ih hP
 | note hb hc hk h ih => exact ih hP
 | word hb hc hx h ih =>
  refine ⟨fun h1 => hP _ List.mem_cons_self (by simp only [tk] at h1 ⊢; omega), Or.inr (ih fun t ht => hP t (List.mem_cons_of_mem _ ht))⟩
theorem rd_count (h : PL.Rd ok l o ts) : ts.length ≤ l.length + 1 := by
 induction h with
 | nil o => simp
 | blank h k ih => simp only [List.length_cons]; omega
 | note hb hc hk h ih => have := PL.idxOf_lt hk; simp only [List.length_cons, List.length_drop] at *; omega
 | word hb hc hx h ih => have := PL.wordL_le hx; simp only [List.length_cons, List.length_drop] at *; omega
theorem wordL_len {x : Nat × List UInt8 × Nat} (h : PL.wordL ok l = some x) : x.2.1.length ≤ 1024 ∨ x.2.1.length ≤ l.length := by
 cases l with
 | nil => simp [PL.wordL] at h
 | cons c l =>
  have h1 := PL.wordL_le h
  by_cases h56 : x.1 ≠ 5 ∧ x.1 ≠ 6
  ·rw [h1.2.2.1 h56.1 h56.2]
   simp only [List.length_take]
   omega
  ·rw [PL.wordL_cons] at h
   split at h
   ·split at h <;> (injection h with h; subst h; simp only [List.length_take]; omega)
   split at h
   ·split at h
    ·injection h with h; subst h; simp only [List.length_take]; omega
    ·cases h
   split at h
   ·simp only [Option.map_eq_some_iff] at h
    obtain ⟨y, hy, rfl⟩ := h
    have := PL.quotedL_len hy
    simp only
    omega
   split at h
   ·split at h
    ·injection h with h; subst h; simp only [List.length_take]; omega
    ·simp only [Option.map_eq_some_iff] at h
     obtain ⟨y, hy, rfl⟩ := h
     have := PL.symbolL_len hy
     simp only
     omega
   split at h
   ·split at h <;> (injection h with h; subst h; simp only [List.length_take]; omega)
   split at h
   ·injection h with h; subst h; simp only [List.length_take]; omega
   split at h
   ·injection h with h; subst h; simp only [List.length_take]; omega
   ·cases h
theorem rd_text (h : PL.Rd ok l o ts) : ∀ t ∈ ts, t.text.length ≤ 1024 ∨ t.text.length ≤ l.length := by
 induction h with
 | nil o => simp
 | blank h k ih => intro t ht; have := ih t ht; simp only [List.length_cons]; omega
 | note hb hc hk h ih => intro t ht; have := ih t ht; simp only [List.length_cons, List.length_drop] at *; omega
 | @word c r o x ts hb hc hx h ih =>
  intro t ht
  rcases List.mem_cons.1 ht with rfl | ht
  ·exact wordL_len hx
  ·have := ih t ht
   simp only [List.length_drop] at this
   omega
end
open SP in
noncomputable def parseS (s : ByteArray) : SP.Nd × Int × Int := if (readS okNum s).2.2 = 0 then unitR ((SP.unit (16 * (readS okNum s).1.length + 12) false (readS okNum s).1).getD (.error (0, 0))) else (zNd, (readS okNum s).2.1, (readS okNum s).2.2)
theorem lex_calls (s : ByteArray) (w : World) : Calls Try.prog 18 #[.string s] w fun e w' => ∃ v0_ : Value, e = .returned (.tuple #[v0_, .int .i64 (readS okNum s).2.1, .int .i64 (readS okNum s).2.2]) ∧ Kd.R k28 64 w' w.heap.size (fun _ => True) v0_ (readS okNum s).1 ∧ Below w.heap.size w w' := by
 by_cases hs : s.size ≤ 4096
 ·exact lex_Read.small reads_number s hs w
 ·exact lex_Read.big s hs w
theorem readS_ok {s : ByteArray} (h : (readS okNum s).2.2 = 0) : s.size ≤ 4096 ∧ ∃ ts, PL.Rd (okL okNum) s.data.toList 0 ts ∧ readS okNum s = (ts.map tk, 0, 0) := by
 unfold readS at h ⊢
 by_cases hs : s.size ≤ 4096
 ·rw [if_pos hs] at h ⊢
  cases hr : PL.read (okL okNum) s.data.toList 0 with
  | error p => rw [hr] at h; cases h
  | ok ts => exact ⟨hs, ts, PL.Rd.of_read hr, rfl⟩
 ·rw [if_neg hs] at h
  cases h
theorem size_list (s : ByteArray) : s.data.toList.length = s.size := by rw [Array.length_toList]; rfl
def InS (s : ByteArray) (t : ByteArray) (p : Int) : Prop := ∃ n : Nat, p = (n : Int) ∧ n + t.size ≤ s.size ∧ (s.data.toList.drop n).take t.size = t.data.toList
theorem rd_names {s : ByteArray} {ts : List PL.Tk} (h : PL.Rd (okL okNum) s.data.toList 0 ts) : SP.WF (InS s) (ts.map tk) := by
 refine rd_wf h fun t ht h1 => ?_
 obtain ⟨h2, h3, h4⟩ := h.places.2.2.1 t ht (by omega) (by omega) (by omega)
 have h5 := h.place_le t ht
 rw [size_list] at h3 h5
 refine ⟨t.place, rfl, ?_, ?_⟩
 ·show t.place + t.text.toArray.size ≤ s.size
  simp only [List.size_toArray]
  omega
 ·show (s.data.toList.drop t.place).take t.text.toArray.size = t.text.toArray.toList
  simpa using h4
theorem ba_size (l : List UInt8) : (⟨l.toArray⟩ : ByteArray).size = l.length := by simp [ByteArray.size]
theorem tree_parse.all (s : ByteArray) (w : World) : Calls Try.prog 10 #[.string s] w (NodeA (parseS s).1 (parseS s).2.1 (parseS s).2.2 w) := by
 refine tree_parse.calls w fun w => ?_
 unfold parseS
 by_cases h0 : (readS okNum s).2.2 = 0
 ·rw [if_pos h0]
  obtain ⟨hs, ts, hrd, he⟩ := readS_ok h0
  have hl := lex_calls s
  rw [he] at hl ⊢
  simp only at hl ⊢
  have hc := rd_count hrd
  have ht := rd_text hrd
  rw [size_list] at hc ht
  have hlen : (ts.map tk).length ≤ 4097 := by rw [List.length_map]; omega
  obtain ⟨r, hr, hr0, hr1⟩ := SP.unit_tot (rd_names hrd)
  rw [hr]
  refine (tree_unit.calls0 (k := 16 * (ts.map tk).length + 12) (r1 := .ok ((SP.E, []), ts.map tk)) w hl rfl ?_ (by omega) Try.func14 (by kernel_rfl) rfl (parse1_head _ _ rfl) (fun L => (allC (16 * (ts.map tk).length + 12) (by omega) _ (Nat.le_refl _)).body) ?_ hr).mono fun e w' hA => hA.node
  ·intro t hm
   obtain ⟨t', ht', rfl⟩ := List.mem_map.1 hm
   have := ht t' ht'
   simp only [tk, ba_size]
   omega
  ·intro ta l2 e
   have e := Except.ok.inj e
   simp only [Prod.mk.injEq] at e
   obtain ⟨rfl, rfl⟩ := e
   simp only [List.length_nil]
   omega
 ·rw [if_neg h0]
  exact tree_unit.nowords w _ (lex_calls s) (bne_t h0)
theorem parseS_ok {s : ByteArray} (h : (parseS s).2.2 = 0) : ∃ ts l2, s.size ≤ 4096 ∧ PL.Rd (okL okNum) s.data.toList 0 ts ∧ SP.unit (16 * (ts.map tk).length + 12) false (ts.map tk) = some (.ok ((parseS s).1, l2)) ∧ SP.Nice (InS s) (parseS s).1 ∧ SP.cnt (parseS s).1 ≤ 4098 := by
 unfold parseS at h ⊢
 by_cases h0 : (readS okNum s).2.2 = 0
 ·rw [if_pos h0] at h ⊢
  obtain ⟨hs, ts, hrd, he⟩ := readS_ok h0
  rw [he] at h ⊢
  simp only at h ⊢
  have hc := rd_count hrd
  rw [size_list] at hc
  obtain ⟨r, hr, hr0, hr1⟩ := SP.unit_tot (rd_names hrd)
  rw [hr] at h ⊢
  cases r with
  | error e => exact absurd h (hr0 e rfl)
  | ok y =>
   obtain ⟨h1, h2, h3⟩ := hr1 y.1 y.2 rfl
   refine ⟨ts, y.2, hs, hrd, hr, h2, ?_⟩
   rw [List.length_map] at h3
   show SP.cnt y.1 ≤ 4098
   omega
 ·rw [if_neg h0] at h
  exact absurd h h0
theorem parseS_cnt (s : ByteArray) : SP.cnt (parseS s).1 ≤ 4098 := by
 by_cases h : (parseS s).2.2 = 0
 ·obtain ⟨ts, l2, -, -, -, -, h⟩ := parseS_ok h
  exact h
 ·have hz : SP.cnt zNd ≤ 4098 := by simp [zNd, SP.cnt, SP.cntL]
  unfold parseS at h ⊢
  split at h
  ·rename_i h0
   rw [if_pos h0]
   generalize (SP.unit (16 * (readS okNum s).1.length + 12) false (readS okNum s).1).getD (.error (0, 0)) = r at h ⊢
   cases r with
   | error e => exact hz
   | ok y => exact absurd rfl h
  ·rename_i h0
   rw [if_neg h0]
   exact hz
end Go.Proofs.Ytpodpmjlkbbkoaa.P
set_option maxHeartbeats 16000000
set_option maxRecDepth 100000
namespace Go.Proofs.Ytpodpmjlkbbkoaa.P
open Go.RowKit Go.Proofs.YtpodpmjlkbbkoaaW.PrintWords Go.Proofs.YtpodpmjlkbbkoaaW.PrintLast Go.Proofs.YtpodpmjlkbbkoaaW.PrintMore
variable [Low]
attribute [local go_sem] field64_1 field64_2
theorem tree_pattern1.calls {B pb gp gq gn M : Nat} {l : List S28} {d : Int} {r : Except (Int × Int) (S28 × List S28)} {ns : List ByteArray} {An : Option Addr} {cn : Nat} {va vb vc vn : Value} (w : World) (h : PS B w pb l d) (hp : w.heap[gp]? = some (.cells #[.pointer (some ⟨pb, 0, none⟩)] 45 (0, 0))) (hq : w.heap[gq]? = some (.cells #[.pointer (some ⟨gn, 0, none⟩)] 46 (0, 0)))
  (hg : w.heap[gn]? = some (.cells #[va, vb, vc, vn, .slice An ns.length cn, .slice none 0 0] 36 (0, 0))) (hn : Kd.string.Q 9 w 0 (fun k => M ≤ k) (.slice An ns.length cn) ns) (hl : ns.length < 1099511627776) (hM : pb < M ∧ gp < M ∧ gq < M ∧ gn < M ∧ B ≤ M ∧ (gn < Low.lo ∨ B ≤ gn) ∧ pb ≠ gn ∧ gp ≠ pb ∧ gq ≠ pb ∧ gp ≠ gn ∧ gq ≠ gn ∧ gp ≠ gq ∧ M ≤ w.heap.size) (hr : SP.need 1 l = some r) :
  Calls Try.prog 21 #[.pointer (some ⟨gq, 0, none⟩), .pointer (some ⟨gp, 0, none⟩)] w (AnsN r B pb gn d (fun k => k = pb ∨ k = gn ∨ M ≤ k) w (fun (t : S28) w' => ∃ A1 c1, w'.heap[gn]? = some (.cells #[va, vb, vc, vn, .slice A1 (ns.length + 1) c1, .slice none 0 0] 36 (0, 0)) ∧ Kd.string.Q 9 w' 0 (fun k => M ≤ k) (.slice A1 (ns.length + 1) c1) (ns ++ [t.f1]))) := by
 have hu36 := Try.underlying36
 have hu64 := Try.underlying64
 have q := Aside0.mk (Fr.refl (fun k => k = pb ∨ k = gn ∨ M ≤ k) w)
 have j := Aside0.mk h
 have b := Aside0.mk hp
 have c := Aside0.mk hq
 have a := Aside0.mk hg
 have m := Aside0.mk hn
 have P := Aside0.mk hl
 have he := Aside0.mk hr
 have Z := Aside0.mk (And.intro hM (And.intro j.out.1 (And.intro j.out.2.1 (Nat.le_refl w.heap.size))))
 clear h hp hq hg hn hl hr hM
 go_enter Try.func21, Try.ntmps21
 replace m := Aside0.mk (Q_mono' (T := fun k => ((M ≤ k) ∧ k < w.heap.size)) m.out (fun k A V => ⟨A, V⟩))
 have H := Aside0.mk (fun k hk => Kd.Q_lt m.out k hk)
 go_wp2
 refine start_ (n := 13) (S := fun w' => (w'.cell? ⟨gq, 0, none⟩ = some (.pointer (some ⟨gn, 0, none⟩))) ∧ (w'.cell? ⟨gn, 4, none⟩ = some (.slice An ns.length cn)) ∧ (w'.cell? ⟨gp, 0, none⟩ = some (.pointer (some ⟨pb, 0, none⟩)))) (ds := [12]) #[false, false, false, false, false, false, false, false, false, false, false, false, false] (by kernel_rfl) rfl rfl (show ((World.drew w).cell? ⟨gq, 0, none⟩ = some (.pointer (some ⟨gn, 0, none⟩))) ∧ ((World.drew w).cell? ⟨gn, 4, none⟩ = some (.slice An ns.length cn)) ∧ ((World.drew w).cell? ⟨gp, 0, none⟩ = some (.pointer (some ⟨pb, 0, none⟩))) from ⟨(blk_cell c.out 0).trans rfl, (blk_cell a.out 4).trans rfl, (blk_cell b.out 0).trans rfl⟩) (fun i => ?_)
 obtain ⟨R, o⟩ : ∃ W_, W_ = World.drew w := ⟨_, rfl⟩
 rw [← o] at i ⊢
 have e : Fr (fun _ => False) w R := (by rw [o]; exact (Fr.refl _ _).drew)
 replace q := q.f0 e
 replace j := j.p0 e
 replace b := b.b0 e
 replace c := c.b0 e
 replace a := a.b0 e
 replace m := m.q0 e
 replace Z := Z.k e
 clear e o
 apply tkA 0 2 i
 apply tkA 1 3 i
 apply puA 2 4
 apply puA 3 5
 apply tkA 4 6 i
 apply tkA 5 7 i
 apply oN 6 (some 8); intro K hK
 refine goesR_ Try.func22 (by kernel_rfl) rfl #[.pointer (some ⟨pb, 0, none⟩), .int .i64 1] (by rfl) rfl rfl (by (try simp only [List.map_toArray, List.map_cons, List.map_nil]); first | done | rfl) ?_
 refine (tree_need.calls _ 1 he.out j.out).mono ?_
 rintro e_ U I
 rcases r with x_ | ⟨t1, l2⟩
 (obtain ⟨rfl, e⟩ := I; exact Or.inr ⟨_, rfl, rfl, rfl, q.out.then_ e (fun k hk => .inl (.inl hk)), _, _, _, _, _, _, (a.b1 e (by have u := Z.out; omega)).out⟩)
 obtain ⟨v_, rfl, hv_, v, e⟩ := I
 subst hv_
 refine Or.inl ⟨_, rfl, ?_⟩
 replace j := Aside0.mk v
 have u := Z.out
 replace q := q.f1 e (by omega)
 replace b := b.b1 e (by omega)
 replace c := c.b1 e (by omega)
 replace a := a.b1 e (by omega)
 replace m := m.q1 e (fun k hk => by omega)
 clear u
 replace Z := Z.k e
 clear v e
 refine hK.out _ _ (show (U.cell? ⟨gq, 0, none⟩ = some (.pointer (some ⟨gn, 0, none⟩))) ∧ (U.cell? ⟨gn, 4, none⟩ = some (.slice An ns.length cn)) ∧ (U.cell? ⟨gp, 0, none⟩ = some (.pointer (some ⟨pb, 0, none⟩))) from ⟨(blk_cell c.out 0).trans rfl, (blk_cell a.out 4).trans rfl, (blk_cell b.out 0).trans rfl⟩) (fun i => ?_)
 clear hK K
 apply nmA 8
 apply puA 7 9
 apply oN 8 (some 10); intro K hK
 refine newR_ (cs := #[.string t1.f1]) (t := 9) (by rfl) rfl ?hr ?_
 (case hr => first | (go_simp; done) | (go_simp; rfl))
 intro bS D J p N
 have e : Fr (fun _ => False) U J := Fr.of_below N
 replace q := q.f0 e
 replace j := j.p0 e
 replace b := b.b0 e
 replace c := c.b0 e
 replace a := a.b0 e
 replace m := m.q0 e
 replace Z := Z.k e
 replace Z := Aside0.mk (And.intro (Nat.le_of_eq D.symm) Z.out)
 replace Z := Aside0.mk (And.intro (Nat.le_of_eq D) Z.out)
 replace Z := Aside0.mk (And.intro (blk_lt p) Z.out)
 have x := Aside0.mk p
 clear D p N e
 refine hK.out _ _ (show (J.cell? ⟨gq, 0, none⟩ = some (.pointer (some ⟨gn, 0, none⟩))) ∧ (J.cell? ⟨gn, 4, none⟩ = some (.slice An ns.length cn)) ∧ (J.cell? ⟨gp, 0, none⟩ = some (.pointer (some ⟨pb, 0, none⟩))) from ⟨(blk_cell c.out 0).trans rfl, (blk_cell a.out 4).trans rfl, (blk_cell b.out 0).trans rfl⟩) (fun i => ?_)
 clear hK K
 apply nmA 10
 apply oN 9 (some 11); intro K hK
 obtain ⟨L, O, Y, a0, s, y, e, G⟩ := str_push (W := J) 22 w.heap.size H.out (Q_mono' (T := fun k => (M ≤ k)) m.out (fun k A _ => A.1)) (fun k hk => (show (M ≤ k) from by have u := Z.out; omega)) (show (M ≤ bS) from by have u := Z.out; omega) x.out (by have := P.out; omega)
 refine appendR_ (.tmp 6) (.tmp 10) (by rfl) rfl rfl rfl rfl s ?_
 have X := G.1
 replace Z := Aside0.mk (And.intro (G) Z.out)
 clear G s x m H
 have u := Z.out
 replace q := q.f1 e (by omega)
 replace j := j.p1 e (by omega)
 replace b := b.b1 e (by omega)
 replace c := c.b1 e (by omega)
 replace a := a.b1 e (by omega)
 clear u
 replace Z := Z.k e
 clear e X
 have m := Aside0.mk y
 clear y
 refine hK.out _ _ (show (Y.cell? ⟨gq, 0, none⟩ = some (.pointer (some ⟨gn, 0, none⟩))) ∧ (Y.cell? ⟨gn, 4, none⟩ = some (.slice An ns.length cn)) ∧ (Y.cell? ⟨gp, 0, none⟩ = some (.pointer (some ⟨pb, 0, none⟩))) from ⟨(blk_cell c.out 0).trans rfl, (blk_cell a.out 4).trans rfl, (blk_cell b.out 0).trans rfl⟩) (fun i => ?_)
 clear hK K
 apply nmA 11
 apply puA 10 12
 apply puA 11 13
 apply la 12 none; intro K hK
 have C := a.z
 have E := a.c6
 have F := a.st 4 (.slice L (ns.length + 1) O) (cs' := #[va, vb, vc, vn, .slice L (ns.length + 1) O, .slice none 0 0]) rfl
 clear a
 obtain ⟨v5, o, e, a⟩ := F
 refine skip_ (w1 := v5) (by rfl) rfl ?_ ?_
 ·rw [← o]
  clear o
  go_simp
  (try rfl)
 have u := Z.out
 replace q := q.f1 e (by omega)
 replace j := j.p1 e (by omega)
 replace b := b.b1 e (by omega)
 replace c := c.b1 e (by omega)
 replace m := m.q1 e (fun k hk => by omega)
 clear u
 replace Z := Z.k e
 clear C E o e
 refine hK.out _ _ ?_
 clear hK K
 refine done_ (by kernel_rfl) ?_
 (try go_wp2)
 refine bodyPost_end (results_none rfl _ _ _) rfl ?_
 exact ⟨rfl, ⟨_, _, a.out, m.out⟩, j.out, q.out⟩
theorem tree_pattern.name {B pb gn : Nat} {t : S28} {l1 : List S28} {r : Except (Int × Int) ((ByteArray × List ByteArray) × List S28)} (w : World) (h : PS B w pb (t :: l1) 0) (hgn : gn < Low.lo ∨ B ≤ gn) (hg : w.heap[gn]? = some (.cells #[.int .i64 12, .string ⟨#[]⟩, .int .i64 0, .int .i64 0, .slice none 0 0, .slice none 0 0] 36 (0, 0))) (c1 : (t.f0 == 1) = true) (hr : some (Except.ok ((t.f1, ([] : List ByteArray)), SP.tl (t :: l1))) = some r) :
  Calls Try.prog 15 #[.pointer (some ⟨pb, 0, none⟩), .pointer (some ⟨gn, 0, none⟩)] w (AnsN r B pb gn 0 (fun k => k = pb ∨ k = gn) w (fun (ta : ByteArray × List ByteArray) w' => ∃ An cn, w'.heap[gn]? = some (.cells #[.int .i64 12, .string ta.1, .int .i64 0, .int .i64 ta.2.length, .slice An ta.2.length cn, .slice none 0 0] 36 (0, 0)) ∧ Kd.string.Q 9 w' 0 (fun k => w.heap.size ≤ k ∧ k ≠ gn) (.slice An ta.2.length cn) ta.2)) := by
 have hu36 := Try.underlying36
 have hu64 := Try.underlying64
 have hmf : ∀ (fn : Fn) (first cap : Array Value) (w : World), (Instr.makeFunc fn first cap).run Try.prog w = .ok (.func fn first cap) w := fun _ _ _ _ => rfl
 have x := Aside0.mk (Fr.refl (fun k => k = pb ∨ k = gn) w)
 have l := Aside0.mk h
 have b := Aside0.mk hg
 have H := Aside0.mk hr
 have Z := Aside0.mk (And.intro hgn (And.intro (blk_lt hg) (And.intro l.out.lo (And.intro l.out.1 (And.intro l.out.2.1 (Nat.le_refl w.heap.size))))))
 clear h hg hr
 go_enter Try.func15, Try.ntmps15
 go_wp2_with (first
  | ((with_reducible refine gate_dst (N := 2) rfl ?_); apply boxE 2 #[.pointer (some ⟨pb, 0, none⟩)] 45; intro gp V c d y; replace x := x.f0 d; replace l := l.p0 d; replace b := b.b0 d; replace Z := Z.a y; clear y d; have i := b.e6; have j := c.c1; have q : gn ≠ gp ∧ gp ≠ gn := (by have A := Z.out; omega))
  | ((with_reducible refine gate_dst (N := 3) rfl ?_); apply boxE 3 #[.pointer (some ⟨gn, 0, none⟩)] 46; intro gq W e d y; replace x := x.f0 d; replace l := l.p0 d; replace b := b.b0 d; replace c := c.b0 d; replace Z := Z.a y; clear y d; clear i j q; have i := b.e6; have j := c.c1; have m := e.c1; have q : gn ≠ gp ∧ gp ≠ gn ∧ gn ≠ gq ∧ gq ≠ gn := (by have A := Z.out; omega))
  | ((with_reducible refine gate_dst (N := 8) rfl ?_); apply takeE 8 l; intro Y G d; replace l := Aside0.mk G; clear G; have A := Z.out; replace x := x.f1 d (by omega); replace b := b.b1 d (by omega); replace c := c.b1 d (by omega); replace e := e.b1 d (by omega); clear A; replace Z := Z.k d; clear d; clear i j m q; have i := b.e6; have j := c.c1; have m := e.c1; have q : gn ≠ gp ∧ gp ≠ gn ∧ gn ≠ gq ∧ gq ≠ gn := (by have A := Z.out; omega))
  | ((with_reducible refine gate_dst (N := 5) rfl ?_); apply boxE 5 #[.int .i64 0, .string ⟨#[]⟩, .int .i64 0] 64; intro v X o d y; replace x := x.f0 d; replace l := l.p0 d; replace b := b.b0 d; replace c := c.b0 d; replace e := e.b0 d; replace Z := Z.a y; clear y d; clear i j m q; have i := b.e6; have j := c.c1; have m := e.c1; have s := o.e3; have q : v ≠ gn ∧ gn ≠ v ∧ v ≠ gp ∧ gp ≠ v ∧ v ≠ gq ∧ gq ≠ v ∧ gn ≠ gp ∧ gp ≠ gn ∧ gn ≠ gq ∧ gq ≠ gn := (by have A := Z.out; omega)))
 have D := o.s3 (.int .i64 t.f0) (.string t.f1) (.int .i64 t.f2)
 clear o
 obtain ⟨C, p, d, o⟩ := D
 rw [p]
 clear p
 have A := Z.out
 replace x := x.f1 d (by omega)
 replace l := l.p1 d (by omega)
 replace b := b.b1 d (by omega)
 replace c := c.b1 d (by omega)
 replace e := e.b1 d (by omega)
 clear A
 replace Z := Z.k d
 clear d
 clear i j m s q
 have i := b.e6
 have j := c.c1
 have m := e.c1
 have s := o.e3
 have q : v ≠ gn ∧ gn ≠ v ∧ v ≠ gp ∧ gp ≠ v ∧ v ≠ gq ∧ gq ≠ v ∧ gn ≠ gp ∧ gp ≠ gn ∧ gn ≠ gq ∧ gq ≠ gn := (by have A := Z.out; omega)
 have D := b.st 1 (.string t.f1) (cs' := #[.int .i64 12, .string t.f1, .int .i64 0, .int .i64 0, .slice none 0 0, .slice none 0 0]) rfl
 clear b
 obtain ⟨I, p, d, b⟩ := D
 rw [p]
 clear p
 have A := Z.out
 replace x := x.f1 d (by omega)
 replace l := l.p1 d (by omega)
 replace c := c.b1 d (by omega)
 replace e := e.b1 d (by omega)
 replace o := o.b1 d (by omega)
 clear A
 replace Z := Z.k d
 clear d
 clear i j m s q
 have i := b.c6
 have j := c.c1
 have m := e.c1
 have s := o.e3
 have q : v ≠ gn ∧ gn ≠ v ∧ v ≠ gp ∧ gp ≠ v ∧ v ≠ gq ∧ gq ≠ v := (by have A := Z.out; omega)
 refine start_ (n := 9) (S := fun w' => (w'.cell? ⟨gq, 0, none⟩ = some (.pointer (some ⟨gn, 0, none⟩))) ∧ (w'.cell? ⟨gn, 4, none⟩ = some (.slice none 0 0))) (ds := [8]) #[false, false, false, false, false, false, false, false, false] (by kernel_rfl) rfl rfl (show ((World.drew I).cell? ⟨gq, 0, none⟩ = some (.pointer (some ⟨gn, 0, none⟩))) ∧ ((World.drew I).cell? ⟨gn, 4, none⟩ = some (.slice none 0 0)) from ⟨(blk_cell e.out 0).trans rfl, (blk_cell b.out 4).trans rfl⟩) (fun u => ?_)
 obtain ⟨O, p⟩ : ∃ W_, W_ = World.drew I := ⟨_, rfl⟩
 rw [← p] at u ⊢
 have d : Fr (fun _ => False) I O := (by rw [p]; exact (Fr.refl _ _).drew)
 replace x := x.f0 d
 replace l := l.p0 d
 replace b := b.b0 d
 replace c := c.b0 d
 replace e := e.b0 d
 replace o := o.b0 d
 replace Z := Z.k d
 clear d p
 clear i j m s q
 apply tkA 0 55 u
 apply tkA 1 56 u
 apply puA 2 57
 apply puA 3 58
 apply tkA 4 59 u
 apply puA 5 60
 apply puA 6 61
 apply puA 7 62
 apply la 8 none; intro K hK
 have J := b.z
 have M := b.c6
 have D := b.st 3 (.int .i64 (0 : Nat)) (cs' := #[.int .i64 12, .string t.f1, .int .i64 0, .int .i64 (0 : Nat), .slice none 0 0, .slice none 0 0]) rfl
 clear b
 obtain ⟨U, p, d, b⟩ := D
 refine skip_ (w1 := U) (by rfl) rfl ?_ ?_
 ·rw [← p]
  clear p
  go_simp
  (try rfl)
 have A := Z.out
 replace x := x.f1 d (by omega)
 replace l := l.p1 d (by omega)
 replace c := c.b1 d (by omega)
 replace e := e.b1 d (by omega)
 replace o := o.b1 d (by omega)
 clear A
 replace Z := Z.k d
 clear J M p d
 refine hK.out _ _ ?_
 clear hK K
 refine done_ (by kernel_rfl) ?_
 (try go_wp2)
 refine bodyPost_end (results_none rfl _ _ _) rfl ?_
 obtain rfl : r = _ := (Option.some.inj H.out).symm
 exact ⟨rfl, ⟨_, _, b.out, Kd.Q_nil _ _ _ _ _⟩, l.out, x.out⟩
theorem tree_pattern.binary {B pb gn : Nat} {t : S28} {l1 : List S28} {r : Except (Int × Int) ((ByteArray × List ByteArray) × List S28)} (w : World) (h : PS B w pb (t :: l1) 0) (hgn : gn < Low.lo ∨ B ≤ gn) (hg : w.heap[gn]? = some (.cells #[.int .i64 12, .string ⟨#[]⟩, .int .i64 0, .int .i64 0, .slice none 0 0, .slice none 0 0] 36 (0, 0))) {rn : Except (Int × Int) (S28 × List S28)} (c1 : (t.f0 == 1) = false) (c3 : (t.f0 == 3) = true) (hn : Aside0 (SP.need 1 (SP.tl (t :: l1)) = some rn)) (hr : SP.bind (some rn) (fun a l2 => SP.ret (t.f1, [a.f1]) l2) = some r) :
  Calls Try.prog 15 #[.pointer (some ⟨pb, 0, none⟩), .pointer (some ⟨gn, 0, none⟩)] w (AnsN r B pb gn 0 (fun k => k = pb ∨ k = gn) w (fun (ta : ByteArray × List ByteArray) w' => ∃ An cn, w'.heap[gn]? = some (.cells #[.int .i64 12, .string ta.1, .int .i64 0, .int .i64 ta.2.length, .slice An ta.2.length cn, .slice none 0 0] 36 (0, 0)) ∧ Kd.string.Q 9 w' 0 (fun k => w.heap.size ≤ k ∧ k ≠ gn) (.slice An ta.2.length cn) ta.2)) := by
 have hu36 := Try.underlying36
 have hu64 := Try.underlying64
 have hmf : ∀ (fn : Fn) (first cap : Array Value) (w : World), (Instr.makeFunc fn first cap).run Try.prog w = .ok (.func fn first cap) w := fun _ _ _ _ => rfl
 have v := Aside0.mk (Fr.refl (fun k => k = pb ∨ k = gn) w)
 have o := Aside0.mk h
 have b := Aside0.mk hg
 have H := Aside0.mk hr
 have Z := Aside0.mk (And.intro hgn (And.intro (blk_lt hg) (And.intro o.out.lo (And.intro o.out.1 (And.intro o.out.2.1 (Nat.le_refl w.heap.size))))))
 clear h hg hr
 go_enter Try.func15, Try.ntmps15
 go_wp2_with (first
  | ((with_reducible refine gate_dst (N := 2) rfl ?_); apply boxE 2 #[.pointer (some ⟨pb, 0, none⟩)] 45; intro gp C c d A; replace v := v.f0 d; replace o := o.p0 d; replace b := b.b0 d; replace Z := Z.a A; clear A d; have i := b.e6; have j := c.c1; have q : gn ≠ gp ∧ gp ≠ gn := (by have x := Z.out; omega))
  | ((with_reducible refine gate_dst (N := 3) rfl ?_); apply boxE 3 #[.pointer (some ⟨gn, 0, none⟩)] 46; intro gq E e d A; replace v := v.f0 d; replace o := o.p0 d; replace b := b.b0 d; replace c := c.b0 d; replace Z := Z.a A; clear A d; clear i j q; have i := b.e6; have j := c.c1; have l := e.c1; have q : gn ≠ gp ∧ gp ≠ gn ∧ gn ≠ gq ∧ gq ≠ gn := (by have x := Z.out; omega))
  | ((with_reducible refine gate_dst (N := 8) rfl ?_); apply takeE 8 o; intro F D d; replace o := Aside0.mk D; clear D; have x := Z.out; replace v := v.f1 d (by omega); replace b := b.b1 d (by omega); replace c := c.b1 d (by omega); replace e := e.b1 d (by omega); clear x; replace Z := Z.k d; clear d; clear i j l q; have i := b.e6; have j := c.c1; have l := e.c1; have q : gn ≠ gp ∧ gp ≠ gn ∧ gn ≠ gq ∧ gq ≠ gn := (by have x := Z.out; omega))
  | ((with_reducible refine gate_dst (N := 5) rfl ?_); apply boxE 5 #[.int .i64 0, .string ⟨#[]⟩, .int .i64 0] 64; intro s L m d A; replace v := v.f0 d; replace o := o.p0 d; replace b := b.b0 d; replace c := c.b0 d; replace e := e.b0 d; replace Z := Z.a A; clear A d; clear i j l q; have i := b.e6; have j := c.c1; have l := e.c1; have p := m.e3; have q : s ≠ gn ∧ gn ≠ s ∧ s ≠ gp ∧ gp ≠ s ∧ s ≠ gq ∧ gq ≠ s ∧ gn ≠ gp ∧ gp ≠ gn ∧ gn ≠ gq ∧ gq ≠ gn := (by have x := Z.out; omega))
  | ((with_reducible refine gate_dst (N := 30) rfl ?_); (try (refine gate_guard (by rfl) ?_; dsimp only)); have G := m.s3 (.int .i64 t.f0) (.string t.f1) (.int .i64 t.f2); clear m; obtain ⟨P, u, d, m⟩ := G; rw [u]; clear u; have x := Z.out; replace v := v.f1 d (by omega); replace o := o.p1 d (by omega); replace b := b.b1 d (by omega); replace c := c.b1 d (by omega); replace e := e.b1 d (by omega); clear x; replace Z := Z.k d; clear d; clear i j l p q; have i := b.e6; have j := c.c1; have l := e.c1; have p := m.e3; have q : s ≠ gn ∧ gn ≠ s ∧ s ≠ gp ∧ gp ≠ s ∧ s ≠ gq ∧ gq ≠ s ∧ gn ≠ gp ∧ gp ≠ gn ∧ gn ≠ gq ∧ gq ≠ gn := (by have x := Z.out; omega); have G := b.st 1 (.string t.f1) (cs' := #[.int .i64 12, .string t.f1, .int .i64 0, .int .i64 0, .slice none 0 0, .slice none 0 0]) rfl; clear b; obtain ⟨I, u, d, b⟩ := G; rw [u]; clear u; have x := Z.out; replace v := v.f1 d (by omega); replace o := o.p1 d (by omega); replace c := c.b1 d (by omega); replace e := e.b1 d (by omega); replace m := m.b1 d (by omega); clear x; replace Z := Z.k d; clear d; clear i j l p q; have i := b.c6; have j := c.c1; have l := e.c1; have p := m.e3; have q : s ≠ gn ∧ gn ≠ s ∧ s ≠ gp ∧ gp ≠ s ∧ s ≠ gq ∧ gq ≠ s := (by have x := Z.out; omega); refine goesV_ (some 30) rfl rfl Try.func21 (by kernel_rfl) rfl (.tmp 29) #[] #[.pointer (some ⟨gq, 0, none⟩), .pointer (some ⟨gp, 0, none⟩)] #[.pointer (some ⟨gq, 0, none⟩), .pointer (some ⟨gp, 0, none⟩)] rfl rfl (by (try simp only [List.map_toArray, List.map_cons, List.map_nil]); first | done | rfl) ?_; refine (tree_pattern1.calls (M := I.heap.size) (ns := []) _ o.out c.out e.out b.out (Kd.Q_nil _ _ _ _ _) (by simp) (by have x := Z.out; omega) hn.out).mono ?_; rintro R U J; rcases rn with x_ | ⟨t1, l2⟩; (obtain ⟨rfl, d, b0_, b1_, b2_, b3_, b4_, b5_, hbx_⟩ := J; obtain rfl : r = Except.error x_ := (Option.some.inj H.out).symm; exact Or.inr ⟨_, rfl, rfl, rfl, v.out.then_ d (fun k (hk : (k = pb ∨ k = gn ∨ I.heap.size ≤ k)) => (show (k = pb ∨ k = gn) ∨ w.heap.size ≤ k from by have x := Z.out; omega)), _, _, _, _, _, _, hbx_⟩); obtain ⟨rfl, ⟨An_, cn_, hbx_, hqn_⟩, D, d⟩ := J; refine Or.inl ⟨_, rfl, ?_⟩; replace o := Aside0.mk D; replace b := Aside0.mk hbx_; have O := Aside0.mk hqn_; have x := Z.out; replace v := Aside0.mk (v.out.then_ d (fun k (hk : (k = pb ∨ k = gn ∨ I.heap.size ≤ k)) => (show (k = pb ∨ k = gn) ∨ w.heap.size ≤ k from by omega))); replace c := Aside0.mk (d.blk c.out (show ¬ ((gp = pb ∨ gp = gn ∨ I.heap.size ≤ gp)) from by omega)); replace e := Aside0.mk (d.blk e.out (show ¬ ((gq = pb ∨ gq = gn ∨ I.heap.size ≤ gq)) from by omega)); replace m := Aside0.mk (d.blk m.out (show ¬ ((s = pb ∨ s = gn ∨ I.heap.size ≤ s)) from by omega)); clear x; replace Z := Z.k d; clear D hbx_ hqn_ d; clear i j l p q; have i := b.c6; have j := c.c1; have l := e.c1; have p := m.e3; have q : s ≠ gn ∧ gn ≠ s ∧ s ≠ gp ∧ gp ≠ s ∧ s ≠ gq ∧ gq ≠ s := (by have x := Z.out; omega)))
 refine start_ (n := 9) (S := fun w' => (w'.cell? ⟨gq, 0, none⟩ = some (.pointer (some ⟨gn, 0, none⟩))) ∧ (w'.cell? ⟨gn, 4, none⟩ = some (.slice An_ 1 cn_))) (ds := [8]) #[false, false, false, false, false, false, false, false, false] (by kernel_rfl) rfl rfl (show ((World.drew U).cell? ⟨gq, 0, none⟩ = some (.pointer (some ⟨gn, 0, none⟩))) ∧ ((World.drew U).cell? ⟨gn, 4, none⟩ = some (.slice An_ 1 cn_)) from ⟨(blk_cell e.out 0).trans rfl, (blk_cell b.out 4).trans rfl⟩) (fun y => ?_)
 obtain ⟨Y, u⟩ : ∃ W_, W_ = World.drew U := ⟨_, rfl⟩
 rw [← u] at y ⊢
 have d : Fr (fun _ => False) U Y := (by rw [u]; exact (Fr.refl _ _).drew)
 replace v := v.f0 d
 replace o := o.p0 d
 replace b := b.b0 d
 replace c := c.b0 d
 replace e := e.b0 d
 replace m := m.b0 d
 replace O := O.q0 d
 replace Z := Z.k d
 clear d u
 clear i j l p q
 apply tkA 0 55 y
 apply tkA 1 56 y
 apply puA 2 57
 apply puA 3 58
 apply tkA 4 59 y
 apply puA 5 60
 apply puA 6 61
 apply puA 7 62
 apply la 8 none; intro K hK
 have V := b.z
 have W := b.c6
 have G := b.st 3 (.int .i64 (1 : Nat)) (cs' := #[.int .i64 12, .string t.f1, .int .i64 0, .int .i64 (1 : Nat), .slice An_ 1 cn_, .slice none 0 0]) rfl
 clear b
 obtain ⟨X, u, d, b⟩ := G
 refine skip_ (w1 := X) (by rfl) rfl ?_ ?_
 ·rw [← u]
  clear u
  go_simp
  (try rfl)
 have x := Z.out
 replace v := v.f1 d (by omega)
 replace o := o.p1 d (by omega)
 replace c := c.b1 d (by omega)
 replace e := e.b1 d (by omega)
 replace m := m.b1 d (by omega)
 replace O := O.q1 d (fun k hk => by omega)
 clear x
 replace Z := Z.k d
 clear V W u d
 refine hK.out _ _ ?_
 clear hK K
 refine done_ (by kernel_rfl) ?_
 (try go_wp2)
 refine bodyPost_end (results_none rfl _ _ _) rfl ?_
 obtain rfl : r = _ := (Option.some.inj H.out).symm
 exact ⟨rfl, ⟨_, _, b.out, Q_mono' O.out (fun k (h1 : I.heap.size ≤ k) _ => (show w.heap.size ≤ k ∧ k ≠ gn from by have x := Z.out; omega))⟩, o.out, v.out⟩
theorem tree_pattern.none_ {B pb gn : Nat} {t : S28} {l1 : List S28} {r : Except (Int × Int) ((ByteArray × List ByteArray) × List S28)} (w : World) (h : PS B w pb (t :: l1) 0) (hgn : gn < Low.lo ∨ B ≤ gn) (hg : w.heap[gn]? = some (.cells #[.int .i64 12, .string ⟨#[]⟩, .int .i64 0, .int .i64 0, .slice none 0 0, .slice none 0 0] 36 (0, 0))) (c1 : (t.f0 == 1) = false) (c3 : (t.f0 == 3) = false) (c2 : (t.f0 == 2) = false) (hr : some (Except.error (t.f2, (20 : Int))) = some r) :
  Calls Try.prog 15 #[.pointer (some ⟨pb, 0, none⟩), .pointer (some ⟨gn, 0, none⟩)] w (AnsN r B pb gn 0 (fun k => k = pb ∨ k = gn) w (fun (ta : ByteArray × List ByteArray) w' => ∃ An cn, w'.heap[gn]? = some (.cells #[.int .i64 12, .string ta.1, .int .i64 0, .int .i64 ta.2.length, .slice An ta.2.length cn, .slice none 0 0] 36 (0, 0)) ∧ Kd.string.Q 9 w' 0 (fun k => w.heap.size ≤ k ∧ k ≠ gn) (.slice An ta.2.length cn) ta.2)) := by
 have hu36 := Try.underlying36
 have hu64 := Try.underlying64
 have hmf : ∀ (fn : Fn) (first cap : Array Value) (w : World), (Instr.makeFunc fn first cap).run Try.prog w = .ok (.func fn first cap) w := fun _ _ _ _ => rfl
 have s := Aside0.mk (Fr.refl (fun k => k = pb ∨ k = gn) w)
 have l := Aside0.mk h
 have b := Aside0.mk hg
 have H := Aside0.mk hr
 have Z := Aside0.mk (And.intro hgn (And.intro (blk_lt hg) (And.intro l.out.lo (And.intro l.out.1 (And.intro l.out.2.1 (Nat.le_refl w.heap.size))))))
 clear h hg hr
 go_enter Try.func15, Try.ntmps15
 go_wp2_with (first
  | ((with_reducible refine gate_dst (N := 2) rfl ?_); apply boxE 2 #[.pointer (some ⟨pb, 0, none⟩)] 45; intro gp A c i n; replace s := s.f0 i; replace l := l.p0 i; replace b := b.b0 i; replace Z := Z.a n; clear n i; have d := b.e6; have e := c.c1; have o : gn ≠ gp ∧ gp ≠ gn := (by have v := Z.out; omega))
  | ((with_reducible refine gate_dst (N := 3) rfl ?_); apply boxE 3 #[.pointer (some ⟨gn, 0, none⟩)] 46; intro gq D j i n; replace s := s.f0 i; replace l := l.p0 i; replace b := b.b0 i; replace c := c.b0 i; replace Z := Z.a n; clear n i; clear d e o; have d := b.e6; have e := c.c1; have m := j.c1; have o : gn ≠ gp ∧ gp ≠ gn ∧ gn ≠ gq ∧ gq ≠ gn := (by have v := Z.out; omega))
  | ((with_reducible refine gate_dst (N := 8) rfl ?_); apply takeE 8 l; intro G x i; replace l := Aside0.mk x; clear x; have v := Z.out; replace s := s.f1 i (by omega); replace b := b.b1 i (by omega); replace c := c.b1 i (by omega); replace j := j.b1 i (by omega); clear v; replace Z := Z.k i; clear i; clear d e m o; have d := b.e6; have e := c.c1; have m := j.c1; have o : gn ≠ gp ∧ gp ≠ gn ∧ gn ≠ gq ∧ gq ≠ gn := (by have v := Z.out; omega))
  | ((with_reducible refine gate_dst (N := 5) rfl ?_); apply boxE 5 #[.int .i64 0, .string ⟨#[]⟩, .int .i64 0] 64; intro q I p i n; replace s := s.f0 i; replace l := l.p0 i; replace b := b.b0 i; replace c := c.b0 i; replace j := j.b0 i; replace Z := Z.a n; clear n i; clear d e m o; have d := b.e6; have e := c.c1; have m := j.c1; have u := p.e3; have o : q ≠ gn ∧ gn ≠ q ∧ q ≠ gp ∧ gp ≠ q ∧ q ≠ gq ∧ gq ≠ q ∧ gn ≠ gp ∧ gp ≠ gn ∧ gn ≠ gq ∧ gq ≠ gn := (by have v := Z.out; omega)))
 have z := p.s3 (.int .i64 t.f0) (.string t.f1) (.int .i64 t.f2)
 clear p
 obtain ⟨J, y, i, p⟩ := z
 rw [y]
 clear y
 have v := Z.out
 replace s := s.f1 i (by omega)
 replace l := l.p1 i (by omega)
 replace b := b.b1 i (by omega)
 replace c := c.b1 i (by omega)
 replace j := j.b1 i (by omega)
 clear v
 replace Z := Z.k i
 clear i
 clear d e m u o
 have d := b.e6
 have e := c.c1
 have m := j.c1
 have u := p.e3
 have o : q ≠ gn ∧ gn ≠ q ∧ q ≠ gp ∧ gp ≠ q ∧ q ≠ gq ∧ gq ≠ q ∧ gn ≠ gp ∧ gp ≠ gn ∧ gn ≠ gq ∧ gq ≠ gn := (by have v := Z.out; omega)
 go_wp2
 obtain rfl : r = _ := (Option.some.inj H.out).symm
 exact ⟨rfl, rfl, s.out, _, _, _, _, _, _, b.out⟩
theorem tree_pattern.keys {k : Nat} (hk : k ≤ 1073741824) {B pb gn : Nat} {t : S28} {l1 : List S28} {r : Except (Int × Int) ((ByteArray × List ByteArray) × List S28)} (w : World) (h : PS B w pb (t :: l1) 0) (hgn : gn < Low.lo ∨ B ≤ gn) (hg : w.heap[gn]? = some (.cells #[.int .i64 12, .string ⟨#[]⟩, .int .i64 0, .int .i64 0, .slice none 0 0, .slice none 0 0] 36 (0, 0))) {rn : Except (Int × Int) (S28 × List S28)} (c1 : (t.f0 == 1) = false) (c3 : (t.f0 == 3) = false) (c2 : (t.f0 == 2) = true) (hn : Aside0 (SP.need 1 (SP.tl (t :: l1)) = some rn)) (hr : SP.bind (some rn) (fun a l2 => SP.keyArgs k l2 t.f1 [a.f1]) = some r) :
  Calls Try.prog 15 #[.pointer (some ⟨pb, 0, none⟩), .pointer (some ⟨gn, 0, none⟩)] w (AnsN r B pb gn 0 (fun k => k = pb ∨ k = gn) w (fun (ta : ByteArray × List ByteArray) w' => ∃ An cn, w'.heap[gn]? = some (.cells #[.int .i64 12, .string ta.1, .int .i64 0, .int .i64 ta.2.length, .slice An ta.2.length cn, .slice none 0 0] 36 (0, 0)) ∧ Kd.string.Q 9 w' 0 (fun k => w.heap.size ≤ k ∧ k ≠ gn) (.slice An ta.2.length cn) ta.2)) := by
 have hut := Aside0.mk h.text
 have hu36 := Try.underlying36
 have hu64 := Try.underlying64
 have hmf : ∀ (fn : Fn) (first cap : Array Value) (w : World), (Instr.makeFunc fn first cap).run Try.prog w = .ok (.func fn first cap) w := fun _ _ _ _ => rfl
 have v := Aside0.mk (Fr.refl (fun k => k = pb ∨ k = gn) w)
 have l := Aside0.mk h
 have b := Aside0.mk hg
 have H := Aside0.mk hr
 have Z := Aside0.mk (And.intro hgn (And.intro (blk_lt hg) (And.intro l.out.lo (And.intro l.out.1 (And.intro l.out.2.1 (Nat.le_refl w.heap.size))))))
 clear h hg hr
 go_enter Try.func15, Try.ntmps15
 go_wp2_with (first
  | ((with_reducible refine gate_dst (N := 2) rfl ?_); apply boxE 2 #[.pointer (some ⟨pb, 0, none⟩)] 45; intro gp P c e G; replace v := v.f0 e; replace l := l.p0 e; replace b := b.b0 e; replace Z := Z.a G; clear G e; have i := b.e6; have j := c.c1; have D : gn ≠ gp ∧ gp ≠ gn := (by have x := Z.out; omega))
  | ((with_reducible refine gate_dst (N := 3) rfl ?_); apply boxE 3 #[.pointer (some ⟨gn, 0, none⟩)] 46; intro gq R d e G; replace v := v.f0 e; replace l := l.p0 e; replace b := b.b0 e; replace c := c.b0 e; replace Z := Z.a G; clear G e; clear i j D; have i := b.e6; have j := c.c1; have m := d.c1; have D : gn ≠ gp ∧ gp ≠ gn ∧ gn ≠ gq ∧ gq ≠ gn := (by have x := Z.out; omega))
  | ((with_reducible refine gate_dst (N := 8) rfl ?_); apply takeE 8 l; intro T s e; replace l := Aside0.mk s; clear s; have x := Z.out; replace v := v.f1 e (by omega); replace b := b.b1 e (by omega); replace c := c.b1 e (by omega); replace d := d.b1 e (by omega); clear x; replace Z := Z.k e; clear e; clear i j m D; have i := b.e6; have j := c.c1; have m := d.c1; have D : gn ≠ gp ∧ gp ≠ gn ∧ gn ≠ gq ∧ gq ≠ gn := (by have x := Z.out; omega))
  | ((with_reducible refine gate_dst (N := 5) rfl ?_); apply boxE 5 #[.int .i64 0, .string ⟨#[]⟩, .int .i64 0] 64; intro y v4 q e G; replace v := v.f0 e; replace l := l.p0 e; replace b := b.b0 e; replace c := c.b0 e; replace d := d.b0 e; replace Z := Z.a G; clear G e; clear i j m D; have i := b.e6; have j := c.c1; have m := d.c1; have A := q.e3; have D : y ≠ gn ∧ gn ≠ y ∧ y ≠ gp ∧ gp ≠ y ∧ y ≠ gq ∧ gq ≠ y ∧ gn ≠ gp ∧ gp ≠ gn ∧ gn ≠ gq ∧ gq ≠ gn := (by have x := Z.out; omega))
  | ((with_reducible refine gate_dst (N := 39) rfl ?_); (try (refine gate_guard (by rfl) ?_; dsimp only)); have U := q.s3 (.int .i64 t.f0) (.string t.f1) (.int .i64 t.f2); clear q; obtain ⟨v5, o, e, q⟩ := U; rw [o]; clear o; have x := Z.out; replace v := v.f1 e (by omega); replace l := l.p1 e (by omega); replace b := b.b1 e (by omega); replace c := c.b1 e (by omega); replace d := d.b1 e (by omega); clear x; replace Z := Z.k e; clear e; clear i j m A D; have i := b.e6; have j := c.c1; have m := d.c1; have A := q.e3; have D : y ≠ gn ∧ gn ≠ y ∧ y ≠ gp ∧ gp ≠ y ∧ y ≠ gq ∧ gq ≠ y ∧ gn ≠ gp ∧ gp ≠ gn ∧ gn ≠ gq ∧ gq ≠ gn := (by have x := Z.out; omega); have U := b.st 1 (.string t.f1) (cs' := #[.int .i64 12, .string t.f1, .int .i64 0, .int .i64 0, .slice none 0 0, .slice none 0 0]) rfl; clear b; obtain ⟨I, o, e, b⟩ := U; rw [o]; clear o; have x := Z.out; replace v := v.f1 e (by omega); replace l := l.p1 e (by omega); replace c := c.b1 e (by omega); replace d := d.b1 e (by omega); replace q := q.b1 e (by omega); clear x; replace Z := Z.k e; clear e; clear i j m A D; have i := b.c6; have j := c.c1; have m := d.c1; have A := q.e3; have D : y ≠ gn ∧ gn ≠ y ∧ y ≠ gp ∧ gp ≠ y ∧ y ≠ gq ∧ gq ≠ y := (by have x := Z.out; omega); refine goesV_ (some 39) rfl rfl Try.func21 (by kernel_rfl) rfl (.tmp 38) #[] #[.pointer (some ⟨gq, 0, none⟩), .pointer (some ⟨gp, 0, none⟩)] #[.pointer (some ⟨gq, 0, none⟩), .pointer (some ⟨gp, 0, none⟩)] rfl rfl (by (try simp only [List.map_toArray, List.map_cons, List.map_nil]); first | done | rfl) ?_; refine (tree_pattern1.calls (M := I.heap.size) (ns := []) _ l.out c.out d.out b.out (Kd.Q_nil _ _ _ _ _) (by simp) (by have x := Z.out; omega) hn.out).mono ?_; rintro C v7 V; rcases rn with x_ | ⟨t1, l2⟩; (obtain ⟨rfl, e, b0_, b1_, b2_, b3_, b4_, b5_, hbx_⟩ := V; obtain rfl : r = Except.error x_ := (Option.some.inj H.out).symm; exact Or.inr ⟨_, rfl, rfl, rfl, v.out.then_ e (fun k (hk : (k = pb ∨ k = gn ∨ I.heap.size ≤ k)) => (show (k = pb ∨ k = gn) ∨ w.heap.size ≤ k from by have x := Z.out; omega)), _, _, _, _, _, _, hbx_⟩); obtain ⟨rfl, ⟨An_, cn_, hbx_, hqn_⟩, s, e⟩ := V; refine Or.inl ⟨_, rfl, ?_⟩; replace l := Aside0.mk s; replace b := Aside0.mk hbx_; have J := Aside0.mk hqn_; have x := Z.out; replace v := Aside0.mk (v.out.then_ e (fun k (hk : (k = pb ∨ k = gn ∨ I.heap.size ≤ k)) => (show (k = pb ∨ k = gn) ∨ w.heap.size ≤ k from by omega))); replace c := Aside0.mk (e.blk c.out (show ¬ ((gp = pb ∨ gp = gn ∨ I.heap.size ≤ gp)) from by omega)); replace d := Aside0.mk (e.blk d.out (show ¬ ((gq = pb ∨ gq = gn ∨ I.heap.size ≤ gq)) from by omega)); replace q := Aside0.mk (e.blk q.out (show ¬ ((y = pb ∨ y = gn ∨ I.heap.size ≤ y)) from by omega)); clear x; replace Z := Z.k e; clear s hbx_ hqn_ e; clear i j m A D; have i := b.c6; have j := c.c1; have m := d.c1; have A := q.e3; have D : y ≠ gn ∧ gn ≠ y ∧ y ≠ gp ∧ gp ≠ y ∧ y ≠ gq ∧ gq ≠ y := (by have x := Z.out; omega)))
 go_loopg [] k (fun kq w' => ∃ (l' : List S28) (tx : ByteArray) (ns : List ByteArray) (AN : Option Addr) (cN : Nat), Aside0 (SP.keyArgs kq l' tx ns = some r) ∧ Aside0 (PS B w' pb l' 0) ∧ Aside0 (w'.heap[gp]? = some (.cells #[.pointer (some ⟨pb, 0, none⟩)] 45 (0, 0))) ∧ Aside0 (w'.heap[gq]? = some (.cells #[.pointer (some ⟨gn, 0, none⟩)] 46 (0, 0))) ∧ Aside0 (w'.heap[gn]? = some (.cells #[.int .i64 12, .string tx, .int .i64 0, .int .i64 0, .slice AN ns.length cN, .slice none 0 0] 36 (0, 0))) ∧ Aside0 (Kd.string.Q 9 w' 0 (fun k => I.heap.size ≤ k) (.slice AN ns.length cN) ns) ∧ Aside0 (Fr (fun k => k = pb ∨ k = gn) w w') ∧ Aside0 ((ns.length + kq ≤ k + 1 ∧ tx.size + kq * 4096 ≤ (k + 1) * 4096) ∧ I.heap.size ≤ w'.heap.size))
 case atStart => exact ⟨l2, t.f1, [t1.f1], _, _, H, l, c, d, b, J, v, ⟨⟨by simp; omega, by have := hut.out; omega⟩, by have x := Z.out; omega⟩⟩
 case round =>
  have Z0 := Aside0.mk (show (gn < Low.lo ∨ B ≤ gn) ∧ gn < w.heap.size ∧ Low.lo ≤ pb ∧ pb < B ∧ B ≤ w.heap.size ∧ w.heap.size ≤ gp ∧ w.heap.size ≤ gq ∧ gp ≠ gq ∧ gp < I.heap.size ∧ gq < I.heap.size ∧ w.heap.size ≤ I.heap.size from by have x := Z.out; omega)
  clear Z H l c d b J v hn q
  obtain ⟨l', tx, ns, AN, cN, H, l, c, d, b, J, v, HL0⟩ := hrel
  have F := Aside0.mk HL0.out.1
  have Z := Aside0.mk (And.intro HL0.out.2 (And.intro v.out.size Z0.out))
  clear HL0 Z0 hut
  cases gk with
  | zero => exact absurd H.out (by simp [SP.keyArgs])
  | succ k1 =>
   cases l' with
   | nil => exact absurd H.out (by simp [SP.keyArgs, SP.top])
   | cons u l1 =>
    by_cases h2 : u.f0 = 2
    ·have c4 : (u.f0 == 2) = true := by simp [h2]
     have H2 := H.out
     simp only [SP.keyArgs, SP.top, h2, if_true] at H2
     obtain ⟨r1, he⟩ := bind_none H2
     rw [he] at H2
     replace H := Aside0.mk H2
     replace he := Aside0.mk he
     have hut := Aside0.mk l.out.text
     clear H2 h2
     have j := c.c1
     have m := d.c1
     have i := b.c6
     go_wp2_with (first
      | ((with_reducible refine gate_dst (N := 41) rfl ?_); (try (refine gate_guard (by rfl) ?_; dsimp only)); apply kindE 41 l))
     refine start_ (n := 11) (S := fun w' => (w'.cell? ⟨gq, 0, none⟩ = some (.pointer (some ⟨gn, 0, none⟩))) ∧ (w'.cell? ⟨gn, 1, none⟩ = some (.string tx)) ∧ (w'.cell? ⟨gp, 0, none⟩ = some (.pointer (some ⟨pb, 0, none⟩)))) (ds := [10]) #[false, false, false, false, false, false, false, false, false, false, false] (by kernel_rfl) rfl rfl (show ((World.drew wr).cell? ⟨gq, 0, none⟩ = some (.pointer (some ⟨gn, 0, none⟩))) ∧ ((World.drew wr).cell? ⟨gn, 1, none⟩ = some (.string tx)) ∧ ((World.drew wr).cell? ⟨gp, 0, none⟩ = some (.pointer (some ⟨pb, 0, none⟩))) from ⟨(blk_cell d.out 0).trans rfl, (blk_cell b.out 1).trans rfl, (blk_cell c.out 0).trans rfl⟩) (fun p => ?_)
     obtain ⟨W, o⟩ : ∃ W_, W_ = World.drew wr := ⟨_, rfl⟩
     rw [← o] at p ⊢
     have e : Fr (fun _ => False) wr W := (by rw [o]; exact (Fr.refl _ _).drew)
     replace v := v.f0 e
     replace l := l.p0 e
     replace c := c.b0 e
     replace d := d.b0 e
     replace b := b.b0 e
     replace J := J.q0 e
     replace Z := Z.k e
     clear e o
     clear j m i
     apply tkA 0 43 p
     apply puA 1 44
     apply puA 2 45
     apply tkA 3 46 p
     apply tkA 4 47 p
     apply oN 5 (some 48); intro K hK
     refine goesR_ Try.func23 (by kernel_rfl) rfl #[.pointer (some ⟨pb, 0, none⟩)] (by rfl) rfl rfl (by (try simp only [List.map_toArray, List.map_cons, List.map_nil]); first | done | rfl) ?_
     refine (tree_take.calls _ l.out).mono ?_
     rintro C O ⟨rfl, s, e⟩
     refine Or.inl ⟨_, rfl, ?_⟩
     replace l := Aside0.mk s
     have x := Z.out
     replace v := v.f1 e (by omega)
     replace c := c.b1 e (by omega)
     replace d := d.b1 e (by omega)
     replace b := b.b1 e (by omega)
     replace J := J.q1 e (fun k hk => by omega)
     clear x
     replace Z := Z.k e
     clear s e
     refine hK.out _ _ (show (O.cell? ⟨gq, 0, none⟩ = some (.pointer (some ⟨gn, 0, none⟩))) ∧ (O.cell? ⟨gn, 1, none⟩ = some (.string tx)) ∧ (O.cell? ⟨gp, 0, none⟩ = some (.pointer (some ⟨pb, 0, none⟩))) from ⟨(blk_cell d.out 0).trans rfl, (blk_cell b.out 1).trans rfl, (blk_cell c.out 0).trans rfl⟩) (fun p => ?_)
     clear hK K
     apply nmA 48
     apply puA 6 49
     have hsz : ¬ 9223372036854775807 < tx.size + u.f1.size := by have := F.out; have := hut.out; omega
     apply puA 7 50
     apply puA 8 51
     apply puA 9 52
     apply la 10 none; intro K hK
     have Y := b.z
     have X := b.c6
     have U := b.st 1 (.string (tx ++ u.f1)) (cs' := #[.int .i64 12, .string (tx ++ u.f1), .int .i64 0, .int .i64 0, .slice AN ns.length cN, .slice none 0 0]) rfl
     clear b
     obtain ⟨E, o, e, b⟩ := U
     refine skip_ (w1 := E) (by rfl) rfl ?_ ?_
     ·rw [← o]
      clear o
      go_simp
      (try rfl)
     have x := Z.out
     replace v := v.f1 e (by omega)
     replace l := l.p1 e (by omega)
     replace c := c.b1 e (by omega)
     replace d := d.b1 e (by omega)
     replace J := J.q1 e (fun k hk => by omega)
     clear x
     replace Z := Z.k e
     clear Y X o e
     refine hK.out _ _ ?_
     clear hK K
     refine done_ (by kernel_rfl) ?_
     have j := c.c1
     have m := d.c1
     have i := b.c6
     go_wp2_with (first
      | ((with_reducible refine gate_dst (N := 54) rfl ?_); (try (refine gate_guard (by rfl) ?_; dsimp only)); refine goesV_ (some 54) rfl rfl Try.func21 (by kernel_rfl) rfl (.tmp 53) #[] #[.pointer (some ⟨gq, 0, none⟩), .pointer (some ⟨gp, 0, none⟩)] #[.pointer (some ⟨gq, 0, none⟩), .pointer (some ⟨gp, 0, none⟩)] rfl rfl (by (try simp only [List.map_toArray, List.map_cons, List.map_nil]); first | done | rfl) ?_; refine (tree_pattern1.calls (M := I.heap.size) (ns := ns) _ l.out c.out d.out b.out J.out (by have := F.out; omega) (by have x := Z.out; omega) he.out).mono ?_; rintro C L V; rcases r1 with x_ | ⟨t2, l3⟩; (obtain ⟨rfl, e, b0_, b1_, b2_, b3_, b4_, b5_, hbx_⟩ := V; obtain rfl : r = Except.error x_ := (Option.some.inj H.out).symm; exact Or.inr ⟨_, rfl, rfl, rfl, v.out.then_ e (fun k (hk : (k = pb ∨ k = gn ∨ I.heap.size ≤ k)) => (show (k = pb ∨ k = gn) ∨ w.heap.size ≤ k from by have x := Z.out; omega)), _, _, _, _, _, _, hbx_⟩); obtain ⟨rfl, ⟨An_, cn_, hbx_, hqn_⟩, s, e⟩ := V; refine Or.inl ⟨_, rfl, ?_⟩; replace l := Aside0.mk s; replace b := Aside0.mk hbx_; replace J := Aside0.mk hqn_; have x := Z.out; replace v := Aside0.mk (v.out.then_ e (fun k (hk : (k = pb ∨ k = gn ∨ I.heap.size ≤ k)) => (show (k = pb ∨ k = gn) ∨ w.heap.size ≤ k from by omega))); replace c := Aside0.mk (e.blk c.out (show ¬ ((gp = pb ∨ gp = gn ∨ I.heap.size ≤ gp)) from by omega)); replace d := Aside0.mk (e.blk d.out (show ¬ ((gq = pb ∨ gq = gn ∨ I.heap.size ≤ gq)) from by omega)); clear x; replace Z := Z.k e; clear s hbx_ hqn_ e; clear j m i; have j := c.c1; have m := d.c1; have i := b.c6))
     go_roundg k1
     case measure => omega
     case rel =>
      have C : (ns ++ [t2.f1]).length = ns.length + 1 := by simp
      exact ⟨l3, tx ++ u.f1, ns ++ [t2.f1], _, _, H, l, c, d, by rw [C]; exact b, by rw [C]; exact J, v, ⟨⟨by rw [C]; have := F.out; omega, by rw [ByteArray.size_append]; have := F.out; have := hut.out; omega⟩, by have x := Z.out; omega⟩⟩
    ·have c4 : (u.f0 == 2) = false := by simp [h2]
     have H2 := H.out
     simp only [SP.keyArgs, SP.top, h2, if_false] at H2
     replace H := Aside0.mk H2
     clear H2 h2
     have j := c.c1
     have m := d.c1
     have i := b.c6
     go_wp2_with (first
      | ((with_reducible refine gate_dst (N := 41) rfl ?_); (try (refine gate_guard (by rfl) ?_; dsimp only)); apply kindE 41 l))
     refine start_ (n := 9) (S := fun w' => (w'.cell? ⟨gq, 0, none⟩ = some (.pointer (some ⟨gn, 0, none⟩))) ∧ (w'.cell? ⟨gn, 4, none⟩ = some (.slice AN ns.length cN))) (ds := [8]) #[false, false, false, false, false, false, false, false, false] (by kernel_rfl) rfl rfl (show ((World.drew wr).cell? ⟨gq, 0, none⟩ = some (.pointer (some ⟨gn, 0, none⟩))) ∧ ((World.drew wr).cell? ⟨gn, 4, none⟩ = some (.slice AN ns.length cN)) from ⟨(blk_cell d.out 0).trans rfl, (blk_cell b.out 4).trans rfl⟩) (fun p => ?_)
     obtain ⟨W, o⟩ : ∃ W_, W_ = World.drew wr := ⟨_, rfl⟩
     rw [← o] at p ⊢
     have e : Fr (fun _ => False) wr W := (by rw [o]; exact (Fr.refl _ _).drew)
     replace v := v.f0 e
     replace l := l.p0 e
     replace c := c.b0 e
     replace d := d.b0 e
     replace b := b.b0 e
     replace J := J.q0 e
     replace Z := Z.k e
     clear e o
     clear j m i
     apply tkA 0 55 p
     apply tkA 1 56 p
     apply puA 2 57
     apply puA 3 58
     apply tkA 4 59 p
     apply puA 5 60
     apply puA 6 61
     apply puA 7 62
     apply la 8 none; intro K hK
     have Y := b.z
     have X := b.c6
     have U := b.st 3 (.int .i64 (ns.length : Nat)) (cs' := #[.int .i64 12, .string tx, .int .i64 0, .int .i64 (ns.length : Nat), .slice AN ns.length cN, .slice none 0 0]) rfl
     clear b
     obtain ⟨O, o, e, b⟩ := U
     refine skip_ (w1 := O) (by rfl) rfl ?_ ?_
     ·rw [← o]
      clear o
      go_simp
      (try rfl)
     have x := Z.out
     replace v := v.f1 e (by omega)
     replace l := l.p1 e (by omega)
     replace c := c.b1 e (by omega)
     replace d := d.b1 e (by omega)
     replace J := J.q1 e (fun k hk => by omega)
     clear x
     replace Z := Z.k e
     clear Y X o e
     refine hK.out _ _ ?_
     clear hK K
     refine done_ (by kernel_rfl) ?_
     (try go_wp2)
     refine bodyPost_end (results_none rfl _ _ _) rfl ?_
     obtain rfl : r = _ := (Option.some.inj H.out).symm
     exact ⟨rfl, ⟨_, _, b.out, Q_mono' J.out (fun k (h1 : I.heap.size ≤ k) _ => (show w.heap.size ≤ k ∧ k ≠ gn from by have x := Z.out; omega))⟩, l.out, v.out⟩
omit [Low] in
theorem pattern_head {k : Nat} (hk : k ≤ 1073741824) {r : Except (Int × Int) ((ByteArray × List ByteArray) × List S28)} {toks : List S28} (hr : SP.pattern k toks = some r) : ∀ L : Low, HeadC 15 r toks := by
 intro L B pb gn w h hgn hg
 cases toks with
 | nil => simp [SP.pattern, SP.top] at hr
 | cons t l1 =>
  simp only [SP.pattern, SP.top] at hr
  by_cases h1 : t.f0 = 1
  ·rw [if_pos h1] at hr
   exact tree_pattern.name w h hgn hg (bt_ h1) hr
  ·rw [if_neg h1] at hr
   by_cases h3 : t.f0 = 3
   ·rw [if_pos h3] at hr
    obtain ⟨rn, he⟩ := bind_none hr
    rw [he] at hr
    exact tree_pattern.binary w h hgn hg (bf_ h1) (bt_ h3) ⟨he⟩ hr
   ·rw [if_neg h3] at hr
    by_cases h2 : t.f0 = 2
    ·rw [if_pos h2] at hr
     obtain ⟨rn, he⟩ := bind_none hr
     rw [he] at hr
     exact tree_pattern.keys hk w h hgn hg (bf_ h1) (bf_ h3) (bt_ h2) ⟨he⟩ hr
    ·rw [if_neg h2] at hr
     exact tree_pattern.none_ w h hgn hg (bf_ h1) (bf_ h3) (bf_ h2) hr
end Go.Proofs.Ytpodpmjlkbbkoaa.P
namespace Go.Proofs.Ytpodpmjlkbbkoaa.P
open Go.RowKit Go.Proofs.YtpodpmjlkbbkoaaW.PrintWords Go.Proofs.YtpodpmjlkbbkoaaW.PrintLast Go.Proofs.YtpodpmjlkbbkoaaW.PrintMore
namespace SP
section
variable {P : ByteArray → Int → Prop}
theorem Good.keyArgs : ∀ (k : Nat) (l : List Tk) (tx : ByteArray) (ns : List ByteArray), WF P l → l.length + 1 ≤ k → Good P (fun r l2 => r.2.length + l2.length ≤ ns.length + l.length) (keyArgs k l tx ns)
 | 0, l, tx, ns, hw, h => by omega
 | k + 1, l, tx, ns, hw, h => by
  unfold SP.keyArgs
  refine Good.top hw fun u l' e hh => ?_
  split
  ·rename_i h1
   have h3 := tl_lt hw (by rw [hh, h1]; decide)
   refine (Good.need 1 (by decide) hw.tl).bind fun t l2 hw2 h2 => ?_
   refine (Good.keyArgs k l2 _ _ hw2 (by have := h2.1; omega)).mono fun a l3 h4 => ?_
   have := h2.1
   simp only [List.length_append, List.length_cons, List.length_nil] at h4
   omega
  ·exact Good.ret hw (Nat.le_refl _)
theorem Good.pattern {k : Nat} {l : List Tk} (hw : WF P l) (h : l.length + 1 ≤ k) : Good P (fun r l2 => r.2.length + l2.length ≤ l.length) (pattern k l) := by
 unfold SP.pattern
 have h0 := tl_le l
 refine Good.top hw fun u l' e hh => ?_
 split
 ·exact Good.ret hw.tl (by simpa using h0)
 ·split
  ·refine (Good.need 1 (by decide) hw.tl).bind fun t l2 hw2 h2 => Good.ret hw2 ?_
   have := h2.1
   simp only [List.length_cons, List.length_nil]
   omega
  ·split
   ·refine (Good.need 1 (by decide) hw.tl).bind fun t l2 hw2 h2 => ?_
    refine (Good.keyArgs k l2 _ _ hw2 (by have := h2.1; omega)).mono fun a l3 h4 => ?_
    have := h2.1
    simp only [List.length_cons, List.length_nil] at h4
    omega
   ·exact Good.bad 20 hw
theorem method_tot {l : List Tk} (hw : WF P l) : Good P (fun n l2 => Nice P n ∧ cnt n + l2.length ≤ l.length + 1) (unit (16 * l.length + 12) true l) := by
 unfold SP.unit
 rw [if_pos rfl]
 refine (Good.pattern hw (by omega)).bind fun ta l2 hw2 h2 => ?_
 refine ((tot _).body 0 0 l2 ta.2 hw2 (by omega)).bind fun nk l3 hw3 h3 => Good.ret hw3 ⟨Nice.plain (by decide) (by decide) (by decide) h3.1, ?_⟩
 have := h3.2
 simp only [cnt]
 omega
end
end SP
noncomputable def methS (s : ByteArray) : SP.Nd × Int × Int := if (readS okNum s).2.2 = 0 then unitR ((SP.unit (16 * (readS okNum s).1.length + 12) true (readS okNum s).1).getD (.error (0, 0))) else (zNd, (readS okNum s).2.1, (readS okNum s).2.2)
theorem tree_method.all (s : ByteArray) (w : World) : Calls Try.prog 11 #[.string s] w (NodeA (methS s).1 (methS s).2.1 (methS s).2.2 w) := by
 refine tree_method.calls w fun w => ?_
 unfold methS
 by_cases h0 : (readS okNum s).2.2 = 0
 ·rw [if_pos h0]
  obtain ⟨hs, ts, hrd, he⟩ := readS_ok h0
  have hl := lex_calls s
  rw [he] at hl ⊢
  simp only at hl ⊢
  have hc := rd_count hrd
  have ht := rd_text hrd
  rw [size_list] at hc ht
  have hlen : (ts.map tk).length ≤ 4097 := by rw [List.length_map]; omega
  obtain ⟨r, hr, hr0, hr1⟩ := SP.method_tot (rd_names hrd)
  obtain ⟨r1, hp, -, hp1⟩ := SP.Good.pattern (k := 16 * (ts.map tk).length + 12) (rd_names hrd) (by omega)
  rw [hr]
  have hr2 := hr
  unfold SP.unit at hr2
  rw [if_pos rfl, hp] at hr2
  refine (tree_unit.calls0 (k := 16 * (ts.map tk).length + 12) (r1 := r1) w hl rfl ?_ (by omega) Try.func15 (by kernel_rfl) rfl (pattern_head (by omega) hp) (fun L => (allC (16 * (ts.map tk).length + 12) (by omega) _ (Nat.le_refl _)).body) ?_ hr2).mono fun e w' hA => hA.node
  ·intro t hm
   obtain ⟨t', ht', rfl⟩ := List.mem_map.1 hm
   have := ht t' ht'
   simp only [tk, ba_size]
   omega
  ·intro ta l2 e
   have := (hp1 ta l2 e).2
   omega
 ·rw [if_neg h0]
  exact tree_unit.nowords w _ (lex_calls s) (bne_t h0)
theorem methS_ok {s : ByteArray} (h : (methS s).2.2 = 0) : s.size ≤ 4096 ∧ SP.Nice (InS s) (methS s).1 ∧ SP.cnt (methS s).1 ≤ 4098 := by
 unfold methS at h ⊢
 by_cases h0 : (readS okNum s).2.2 = 0
 ·rw [if_pos h0] at h ⊢
  obtain ⟨hs, ts, hrd, he⟩ := readS_ok h0
  rw [he] at h ⊢
  simp only at h ⊢
  have hc := rd_count hrd
  rw [size_list] at hc
  obtain ⟨r, hr, hr0, hr1⟩ := SP.method_tot (rd_names hrd)
  rw [hr] at h ⊢
  cases r with
  | error e => exact absurd h (hr0 e rfl)
  | ok y =>
   obtain ⟨h1, h2, h3⟩ := hr1 y.1 y.2 rfl
   refine ⟨hs, h2, ?_⟩
   rw [List.length_map] at h3
   show SP.cnt y.1 ≤ 4098
   omega
 ·rw [if_neg h0] at h
  exact absurd h h0
theorem methS_cnt (s : ByteArray) : SP.cnt (methS s).1 ≤ 4098 := by
 by_cases h : (methS s).2.2 = 0
 ·exact (methS_ok h).2.2
 ·have hz : SP.cnt zNd ≤ 4098 := by simp [zNd, SP.cnt, SP.cntL]
  unfold methS at h ⊢
  split at h
  ·rename_i h0
   rw [if_pos h0]
   generalize (SP.unit (16 * (readS okNum s).1.length + 12) true (readS okNum s).1).getD (.error (0, 0)) = r at h ⊢
   cases r with
   | error e => exact hz
   | ok y => exact absurd rfl h
  ·rename_i h0
   rw [if_neg h0]
   exact hz
end Go.Proofs.Ytpodpmjlkbbkoaa.P
