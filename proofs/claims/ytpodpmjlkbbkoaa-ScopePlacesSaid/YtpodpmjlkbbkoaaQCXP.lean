import Derived.Test.YtpodpmjlkbbkoaaQCLW
import Derived.Test.YtpodpmjlkbbkoaaQCPQ
import Derived.Test.YtpodpmjlkbbkoaaQCTA
set_option linter.all false
set_option maxHeartbeats 16000000
set_option maxRecDepth 100000
namespace Go.Proofs.Ytpodpmjlkbbkoaa.P
open Go.RowKit Go.Proofs.YtpodpmjlkbbkoaaW.PrintWords Go.Proofs.YtpodpmjlkbbkoaaW.PrintLast Go.Proofs.YtpodpmjlkbbkoaaW.PrintMore
def RsB (us : List SP.Use) (p y : Int) (ok : Bool) (w : World) (e : Ending) (w' : World) : Prop := ∃ A c, e = .returned (.tuple #[.slice A us.length c, .int .i64 p, .int .i64 y, .bool ok]) ∧ kUse.R 29 w' 0 (fun k => w.heap.size ≤ k) (.slice A us.length c) us ∧ Below w.heap.size w w'
def KnownC : Prop := ∀ w, Calls Try.prog 7 #[] w fun e w' => e = .returned (.bool true) ∧ Below w.heap.size w w'
theorem use_at {w : World} {S : Nat → Prop} {A : Option Addr} {n c : Nat} {us : List SP.Use} (h : kUse.R 29 w 0 S (.slice A n c) us) (i : Nat) (u : SP.Use) (hi : us[i]? = some u) :
  ∃ ad, A = some ad ∧ w.cell? (ad.add (i * 6)) = some (.int .i64 u.place) ∧ w.cell? ⟨(ad.add (i * 6)).block, (ad.add (i * 6)).off + 1, none⟩ = some (.string u.name) ∧ w.cell? ⟨(ad.add (i * 6)).block, (ad.add (i * 6)).off + 2, none⟩ = some (.int .i64 u.kind) ∧ w.cell? ⟨(ad.add (i * 6)).block, (ad.add (i * 6)).off + 3, none⟩ = some (.int .i64 u.depth) ∧ w.cell? ⟨(ad.add (i * 6)).block, (ad.add (i * 6)).off + 4, none⟩ = some (.int .i64 u.index) ∧ w.cell? ⟨(ad.add (i * 6)).block, (ad.add (i * 6)).off + 5, none⟩ = some (.bool u.write) := by
 have hlt := (List.getElem?_eq_some_iff.1 hi).1
 have hg := (List.getElem?_eq_some_iff.1 hi).2
 obtain ⟨h1, h2, hC⟩ := Kd.R_reads' h
 obtain ⟨ad, cc, e, _, hK, hc0⟩ := Kd.C_get hC u (i : Int) (by omega) (by omega)
 have hz : kUse.sz = 6 := rfl
 rw [Int.toNat_natCast] at hK
 rw [List.getD_eq_getElem?_getD, hi] at hK
 have hcc := kUse_K hK
 subst hcc
 have hc : ∀ j v, [Value.int .i64 u.place, .string u.name, .int .i64 u.kind, .int .i64 u.depth, .int .i64 u.index, .bool u.write][j]? = some v → w.cell? (ad.add (i * 6 + j)) = some v := fun j v hv => by
  have := hc0 j v hv
  rw [Int.toNat_natCast, hz] at this
  exact this
 exact ⟨ad, e, hc 0 _ rfl, by rw [← add_field _ _ 1 (by omega)]; exact hc 1 _ rfl, by rw [← add_field _ _ 2 (by omega)]; exact hc 2 _ rfl, by rw [← add_field _ _ 3 (by omega)]; exact hc 3 _ rfl, by rw [← add_field _ _ 4 (by omega)]; exact hc 4 _ rfl, by rw [← add_field _ _ 5 (by omega)]; exact hc 5 _ rfl⟩
theorem ext_of {s t : ByteArray} {n : Nat} (h : n + t.size ≤ s.size) (ht : (s.data.toList.drop n).take t.size = t.data.toList) : s.extract n (n + t.size) = t := by
 apply ByteArray.ext
 apply Array.ext'
 rw [ByteArray.data_extract, Array.toList_extract, List.extract_eq_take_drop, ← ht]
 congr 1
 omega
theorem law_places.skip {s : ByteArray} {m : Bool} {slots : List ByteArray} {p1 y1 : Int} {us : List SP.Use} {ok1 : Bool} {As : Option Addr} {cs : Nat} (w : World) (h6 : ∀ w As cs, SL (fun k => k < w.heap.size) w As cs slots → Calls Try.prog 6 #[.string s, .bool m, .slice As slots.length cs] w (RsB us p1 y1 ok1 w)) (hk7 : KnownC) (hs : SL (fun k => k < w.heap.size) w As cs slots) (hc : ok1 = false ∨ ok1 = true ∧ (y1 != 0) = true) : Calls Try.prog 5 #[.string s, .bool m, .slice As slots.length cs] w fun e w' => e = .returned (.bool true) ∧ Below w.heap.size w w' := by
 have hu29 := Try.underlying29
 have FR := Aside0.mk (Fr.refl (fun k => w.heap.size ≤ k) w)
 have QS := Aside0.mk hs
 have Z := Aside0.mk (Nat.le_refl w.heap.size)
 clear hs
 go_enter Try.func5, Try.ntmps5
 rcases hc with rfl | ⟨rfl, c1⟩
 all_goals (
  go_wp2_with (first
   | ((with_reducible refine gate_dst (N := 17) rfl ?_); apply goE 17 Try.func6 (h6 w As cs (SL.mono QS.out (fun k (hk : k < w.heap.size) _ => (show k < w.heap.size from by have hZ := Z.out; omega)))); rintro e_ v1 ⟨Aa, ca, rfl, hu_, hb_⟩; refine Or.inl ⟨_, rfl, ?_⟩; have K_ : Fr (fun _ => False) w v1 := Fr.of_below hb_; replace FR := FR.f0 K_; replace QS := QS.l0 K_; replace Z := Z.k K_; have QUa := Aside0.mk (R_mono' (T := fun k => w.heap.size ≤ k ∧ k < v1.heap.size) hu_ (fun k h1_ h2_ => ⟨h1_, h2_⟩)); clear K_ hu_ hb_)
   | ((with_reducible refine gate_dst (N := 28) rfl ?_); apply goE 28 Try.func7 (hk7 v1); rintro e_ v2 ⟨rfl, hb_⟩; refine Or.inl ⟨_, rfl, ?_⟩; have K_ : Fr (fun _ => False) v1 v2 := Fr.of_below hb_; have FR := FR.f0 K_; clear K_ hb_))
  go_ret
  exact ⟨rfl, FR.out.below (Below.refl _ _) (fun k h => h) (Nat.le_refl _)⟩)
theorem law_places.good {s : ByteArray} {m : Bool} {slots : List ByteArray} {p1 y1 : Int} {us : List SP.Use} {ok1 : Bool} {As : Option Addr} {cs : Nat} (w : World) (h6 : ∀ w As cs, SL (fun k => k < w.heap.size) w As cs slots → Calls Try.prog 6 #[.string s, .bool m, .slice As slots.length cs] w (RsB us p1 y1 ok1 w)) (hk7 : KnownC) (hs : SL (fun k => k < w.heap.size) w As cs slots) (c0 : ok1 = true) (c1 : (y1 != 0) = false) (hus : ∀ u, u ∈ us → InS s u.name u.place ∧ (u.write = true → u.kind = 3 ∨ u.kind = 4)) (hul : us.length ≤ 1000000) (hsl : s.size ≤ 4096) : Calls Try.prog 5 #[.string s, .bool m, .slice As slots.length cs] w fun e w' => e = .returned (.bool true) ∧ Below w.heap.size w w' := by
 subst c0
 have HU := Aside0.mk hus
 clear hus
 have hu29 := Try.underlying29
 have FR := Aside0.mk (Fr.refl (fun k => w.heap.size ≤ k) w)
 have QS := Aside0.mk hs
 have Z := Aside0.mk (Nat.le_refl w.heap.size)
 clear hs
 go_enter Try.func5, Try.ntmps5
 go_wp2_with (first
  | ((with_reducible refine gate_dst (N := 17) rfl ?_); apply goE 17 Try.func6 (h6 w As cs (SL.mono QS.out (fun k (hk : k < w.heap.size) _ => (show k < w.heap.size from by have hZ := Z.out; omega)))); rintro e_ v1 ⟨Aa, ca, rfl, hu_, hb_⟩; refine Or.inl ⟨_, rfl, ?_⟩; have K_ : Fr (fun _ => False) w v1 := Fr.of_below hb_; replace FR := FR.f0 K_; replace QS := QS.l0 K_; replace Z := Z.k K_; have QUa := Aside0.mk (R_mono' (T := fun k => w.heap.size ≤ k ∧ k < v1.heap.size) hu_ (fun k h1_ h2_ => ⟨h1_, h2_⟩)); clear K_ hu_ hb_))
 have QUa := Aside0.mk (R_mono' (T := fun k => k < v1.heap.size) QUa.out (fun k _ h => h))
 have QA0 := QUa
 have F0 := FR
 go_loopg [11] us.length (fun kq v11 w' => ∃ i : Nat, v11 = .int .i64 (i : Int) ∧ i + kq = us.length ∧ Aside0 (Fr (fun k => v1.heap.size ≤ k) v1 w'))
 case atStart => exact ⟨0, rfl, by omega, ⟨Fr.refl _ _⟩⟩
 case round =>
  obtain ⟨i, rfl, hi, FL⟩ := hrel
  have QUa := Aside0.mk (FL.out.R QA0.out (fun k (hk : k < v1.heap.size) (h : v1.heap.size ≤ k) => by omega))
  have Z := Aside0.mk (And.intro FL.out.size Z.out)
  cases gk with
  | zero =>
   have d1 : decide ((i : Int) < (us.length : Int)) = false := decide_eq_false (by omega)
   have FR := Aside0.mk (F0.out.then_ FL.out (fun k (hk : v1.heap.size ≤ k) => .inl (show w.heap.size ≤ k from by have hZ := Z.out; omega)))
   go_wp2_with (first
    | ((with_reducible refine gate_dst (N := 89) rfl ?_); apply goE 89 Try.func7 (hk7 wr); rintro e_ v141 ⟨rfl, hb_⟩; refine Or.inl ⟨_, rfl, ?_⟩; have K_ : Fr (fun _ => False) wr v141 := Fr.of_below hb_; have FR := FR.f0 K_; clear K_ hb_))
   go_ret
   exact ⟨rfl, FR.out.below (Below.refl _ _) (fun k h => h) (Nat.le_refl _)⟩
  | succ k1 =>
   have d1 : decide ((i : Int) < (us.length : Int)) = true := decide_eq_true (by omega)
   have FR := FL
   have hlt : i < us.length := by omega
   obtain ⟨u, hu⟩ : ∃ u, us[i]? = some u := ⟨_, List.getElem?_eq_getElem hlt⟩
   obtain ⟨⟨n, hp, hpl, hpt⟩, hwr⟩ := HU.out u (List.mem_of_getElem? hu)
   obtain ⟨ad, eA, x0, x1, x2, x3, x4, x5⟩ := use_at QUa.out i u hu
   subst eA
   obtain ⟨bw, hbw⟩ : ∃ b, u.write = b := ⟨_, rfl⟩
   rw [hbw] at x5 hwr
   have hbk : bw = false ∨ bw = true ∧ (u.kind != 3) = false ∨ bw = true ∧ (u.kind != 3) = true ∧ (u.kind != 4) = false := by
    cases bw with
    | false => exact .inl rfl
    | true =>
     rcases hwr rfl with h | h
     ·exact .inr (.inl ⟨rfl, by rw [h]; rfl⟩)
     ·exact .inr (.inr ⟨rfl, by rw [h]; rfl, by rw [h]; rfl⟩)
   have hws : IntKind.i64.wrap ((s.size : Int) - u.place) = (s.size : Int) - u.place := by rw [i64_w]; unfold wrap64; omega
   have hwa : IntKind.i64.wrap (u.place + (u.name.size : Int)) = u.place + (u.name.size : Int) := by rw [i64_w]; unfold wrap64; omega
   have e1 : decide (u.place < 0) = false := decide_eq_false (by omega)
   have e2 : decide ((s.size : Int) < u.place) = false := decide_eq_false (by omega)
   have e3 : decide (IntKind.i64.wrap ((s.size : Int) - u.place) < (u.name.size : Int)) = false := decide_eq_false (by rw [hws]; omega)
   have e4 := eq_true (show 0 ≤ u.place by omega)
   have e5 := eq_true (show u.place ≤ IntKind.i64.wrap (u.place + (u.name.size : Int)) by rw [hwa]; omega)
   have e6 := eq_true (show IntKind.i64.wrap (u.place + (u.name.size : Int)) ≤ (s.size : Int) by rw [hwa]; omega)
   have e7 : s.extract u.place.toNat (IntKind.i64.wrap (u.place + (u.name.size : Int))).toNat = u.name := by
    rw [hwa, show (u.place + (u.name.size : Int)).toNat = n + u.name.size by omega, show u.place.toNat = n by omega]
    exact ext_of hpl hpt
   have e8 : ((s.extract u.place.toNat (IntKind.i64.wrap (u.place + (u.name.size : Int))).toNat).toList == u.name.toList) = true := by rw [e7]; simp
   clear hu hws hwa hp hpl hpt hwr hbw e7
   go_wp2_with (first
    | ((with_reducible refine gate_dst (N := 12) rfl ?_); apply boxE 12 #[.int .i64 0, .string ⟨#[]⟩, .int .i64 0, .int .i64 0, .int .i64 0, .bool false] 29; intro g12 v121 BKg12 K_ hz_; replace FR := FR.f0 K_; replace QUa := QUa.r0 K_; replace Z := Z.a hz_; clear hz_ K_; have hc_g12 := BKg12.e6))
   have hs_ := BKg12.s6 (.int .i64 u.place) (.string u.name) (.int .i64 u.kind) (.int .i64 u.depth) (.int .i64 u.index) (.bool bw)
   clear BKg12
   obtain ⟨v122, hw_, K_, BKg12⟩ := hs_
   rw [hw_]
   clear hw_
   have hZ := Z.out
   replace FR := FR.f1 K_ (by omega)
   replace QUa := QUa.r1 K_ (fun k hk => by omega)
   clear hZ
   replace Z := Z.k K_
   clear K_
   clear hc_g12
   have hc_g12 := BKg12.e6
   rcases hbk with rfl | ⟨rfl, k3⟩ | ⟨rfl, k3, k4⟩
   all_goals (
    go_quiet (fail)
    go_wp2
    go_roundg k1
    case measure => omega
    case rel => exact ⟨i + 1, rfl, by omega, ⟨FR.out.drewN nq⟩⟩)
end Go.Proofs.Ytpodpmjlkbbkoaa.P
