import Derived.Test.YtpodpmjlkbbkoaaWCPS
import Derived.Test.YtpodpmjlkbbkoaaWCPB
import Derived.Test.YtpodpmjlkbbkoaaWCPA
import Derived.Test.YtpodpmjlkbbkoaaWCXW
import Derived.Test.YtpodpmjlkbbkoaaWCLE
set_option linter.all false
namespace Go.Proofs.Ytpodpmjlkbbkoaa.P
open Go.RowKit Go.Proofs.YtpodpmjlkbbkoaaW.PrintWords Go.Proofs.YtpodpmjlkbbkoaaW.PrintLast Go.Proofs.YtpodpmjlkbbkoaaW.PrintMore
namespace SP
theorem unit_err {r : Nat} {t u : Tk} {l : List Tk} (h10 : t.f0 = 10) (h16 : u.f0 ≠ 16) {e : Int × Int} (hb : body (r + 1) 1 11 (u :: l) [] = some (.error e)) : unit (r + 11) false (t :: u :: l) = some (.error e) := by
 have ha : args (r + 1) (u :: l) [] = ret [] (u :: l) := by
  simp only [args, top]
  rw [if_neg h16]
 have hblk : block (r + 2) 0 (t :: u :: l) = some (.error e) := by
  unfold SP.block
  simp only [top, within, tl]
  rw [if_neg (by decide), if_neg (by omega), ha]
  simp only [ret, bind]
  rw [if_neg (by simp)]
  simp only [Int.reduceAdd]
  rw [hb]
 have hprim : prim (r + 3) 0 (t :: u :: l) = some (.error e) := by
  unfold SP.prim
  simp only [top]
  rw [if_neg (by omega), if_neg (by omega), if_neg (by omega), if_neg (by omega), if_neg (by omega), if_pos h10, hblk]
  rfl
 have hun : unary (r + 4) 0 (t :: u :: l) = some (.error e) := by unfold SP.unary; rw [hprim]; rfl
 have hbi : binary (r + 5) 0 (t :: u :: l) = some (.error e) := by unfold SP.binary; rw [hun]; rfl
 have hke : keyed (r + 6) 0 (t :: u :: l) = some (.error e) := by unfold SP.keyed; rw [hbi]; rfl
 have hca : casc (r + 7) 0 (t :: u :: l) = some (.error e) := by unfold SP.casc; rw [hke]; rfl
 have hex : expr (r + 8) 0 (t :: u :: l) = some (.error e) := by
  unfold SP.expr
  simp only [top]
  rw [if_neg (by omega)]
  exact hca
 have hst : stmt (r + 9) 0 (t :: u :: l) = some (.error e) := by
  unfold SP.stmt
  rw [if_neg (show ¬ hk (t :: u :: l) = 13 from by show ¬ t.f0 = 13; omega), hex]
  rfl
 have hss : stmts (r + 10) 0 0 (t :: u :: l) [] = some (.error e) := by
  unfold SP.stmts
  rw [if_neg (show ¬ hk (t :: u :: l) = 0 from by show ¬ t.f0 = 0; omega), hst]
  rfl
 have hbo : body (r + 11) 0 0 (t :: u :: l) [] = some (.error e) := by
  unfold SP.body SP.temps
  rw [if_neg (show ¬ hk (t :: u :: l) = 12 from by show ¬ t.f0 = 12; omega)]
  simp only [ret, bind]
  rw [hss]
 unfold SP.unit
 rw [if_neg (by decide)]
 simp only [ret, bind]
 rw [hbo]
theorem unit_ok {r : Nat} {t u f g : Tk} {l : List Tk} {nk : List ByteArray × List Nd} (h10 : t.f0 = 10) (h16 : u.f0 ≠ 16) (hf : f.f0 = 11) (hg : g.f0 = 0) (hb : body (r + 1) 1 11 (u :: l) [] = some (.ok (nk, [f, g]))) : unit (r + 11) false (t :: u :: l) = some (.ok (.mk 12 E 0 0 [] [.mk 10 E t.f2 0 nk.1 nk.2], [g])) := by
 have ha : args (r + 1) (u :: l) [] = ret [] (u :: l) := by
  simp only [args, top]
  rw [if_neg h16]
 have htl : tl [f, g] = [g] := by
  show (if f.f0 = 0 then [f, g] else [g]) = _
  rw [if_neg (by omega)]
 have hblk : block (r + 2) 0 (t :: u :: l) = some (.ok (.mk 10 E t.f2 0 nk.1 nk.2, [g])) := by
  unfold SP.block
  simp only [top, within]
  rw [if_neg (by decide), show tl (t :: u :: l) = u :: l from if_neg (by omega), ha]
  simp only [ret, bind]
  rw [if_neg (by simp)]
  simp only [Int.reduceAdd]
  rw [hb]
  simp only
  rw [htl]
  rfl
 have hch : ∀ (k : Nat) (kd : Int) (np : Nd × Bool), kd ≠ 0 → chain (k + 1) 0 kd np [g] = ret np [g] := fun k kd np h => by
  unfold SP.chain
  simp only [top]
  rw [if_neg (by omega)]
 have hprim : prim (r + 3) 0 (t :: u :: l) = some (.ok ((.mk 10 E t.f2 0 nk.1 nk.2, true), [g])) := by
  unfold SP.prim
  simp only [top]
  rw [if_neg (by omega), if_neg (by omega), if_neg (by omega), if_neg (by omega), if_neg (by omega), if_pos h10, hblk]
  rfl
 have hun : unary (r + 4) 0 (t :: u :: l) = some (.ok ((.mk 10 E t.f2 0 nk.1 nk.2, true), [g])) := by unfold SP.unary; rw [hprim]; exact hch _ _ _ (by decide)
 have hbi : binary (r + 5) 0 (t :: u :: l) = some (.ok ((.mk 10 E t.f2 0 nk.1 nk.2, true), [g])) := by unfold SP.binary; rw [hun]; exact hch _ _ _ (by decide)
 have hke : keyed (r + 6) 0 (t :: u :: l) = some (.ok ((.mk 10 E t.f2 0 nk.1 nk.2, true), [g])) := by
  unfold SP.keyed
  rw [hbi]
  simp only [bind, top]
  rw [if_neg (by omega)]
  rfl
 have hca : casc (r + 7) 0 (t :: u :: l) = some (.ok (.mk 10 E t.f2 0 nk.1 nk.2, [g])) := by
  unfold SP.casc
  rw [hke]
  simp only [bind, top]
  rw [if_neg (by omega)]
  rfl
 have hex : expr (r + 8) 0 (t :: u :: l) = some (.ok (.mk 10 E t.f2 0 nk.1 nk.2, [g])) := by
  unfold SP.expr
  simp only [top]
  rw [if_neg (by omega)]
  exact hca
 have hst : stmt (r + 9) 0 (t :: u :: l) = some (.ok ((.mk 10 E t.f2 0 nk.1 nk.2, false), [g])) := by
  unfold SP.stmt
  rw [if_neg (show ¬ hk (t :: u :: l) = 13 from by show ¬ t.f0 = 13; omega), hex]
  rfl
 have hss : stmts (r + 10) 0 0 (t :: u :: l) [] = some (.ok ([.mk 10 E t.f2 0 nk.1 nk.2], [g])) := by
  unfold SP.stmts
  rw [if_neg (show ¬ hk (t :: u :: l) = 0 from by show ¬ t.f0 = 0; omega), hst]
  simp only [bind]
  rw [if_neg (show ¬ hk [g] = 14 from by show ¬ g.f0 = 14; omega), if_pos (show hk [g] = 0 from hg)]
  rfl
 have hbo : body (r + 11) 0 0 (t :: u :: l) [] = some (.ok (([], [.mk 10 E t.f2 0 nk.1 nk.2]), [g])) := by
  unfold SP.body SP.temps
  rw [if_neg (show ¬ hk (t :: u :: l) = 12 from by show ¬ t.f0 = 12; omega)]
  simp only [ret, bind]
  rw [hss]
 unfold SP.unit
 rw [if_neg (by decide)]
 simp only [ret, bind]
 rw [hbo]
 rfl
theorem stmts_first {k : Nat} {d e : Int} {l : List Tk} {ks : List Nd} {y : List Nd × List Tk} (h : stmts k d e l ks = some (.ok y)) (he : e ≠ 16) : hk l ≠ 16 := by
 intro h16
 cases k with
 | zero => simp [stmts] at h
 | succ k =>
  unfold SP.stmts at h
  rw [if_neg (by omega)] at h
  obtain ⟨a, l3, h2, _⟩ := bind_ok h
  exact stmt_no k d l (Or.inr (Or.inr h16)) _ h2
theorem unit_within {k : Nat} {l l' : List Tk} {t : Tk} {nd nd' : Nd} {l2 l2' : List Tk} (hk1 : k + 11 ≤ 16 * (t :: l').length + 12) (hc : Co l l') (h10 : t.f0 = 10) (h : unit k false l = some (.ok (nd, l2))) (hn : nd.names = []) (h' : unit (16 * (t :: l').length + 12) false (t :: l') = some (.ok (nd', l2'))) :
  nd' = .mk 12 E 0 0 [] [.mk 10 E t.f2 0 [] (shL nd.kids)] ∧ nd.n = 0 := by
 unfold SP.unit at h
 rw [if_neg (by decide)] at h
 simp only [ret, bind] at h
 cases hb : body k 0 0 l [] with
 | none => rw [hb] at h; cases h
 | some z =>
  cases z with
  | error e => rw [hb] at h; cases h
  | ok y =>
   obtain ⟨nk, l3⟩ := y
   rw [hb] at h
   simp only [Option.some.injEq, Except.ok.injEq, Prod.mk.injEq] at h
   obtain ⟨rfl, rfl⟩ := h
   have hnk : nk.1 = [] := hn
   refine ⟨?_, rfl⟩
   obtain ⟨u, r', rfl⟩ := hc.ne
   obtain ⟨n, hn2⟩ : ∃ n, 16 * (t :: u :: r').length + 12 = k + n + 1 + 10 := ⟨16 * (t :: u :: r').length + 12 - k - 11, by omega⟩
   have hm := body_mono 0 0 l [] k (n + 1) _ hb
   have hend := body_end _ _ _ _ _ _ _ hm
   have h16 : u.f0 ≠ 16 := by
    have hkl : hk l ≠ 16 := by
     cases k with
     | zero => simp [body] at hb
     | succ k =>
      unfold SP.body at hb
      obtain ⟨a, l4, ht, hb⟩ := bind_ok hb
      obtain ⟨b, l5, hs, _⟩ := bind_ok hb
      unfold SP.temps at ht
      split at ht
      ·rename_i h12; omega
      ·obtain ⟨_, rfl⟩ := ret_ok ht
       exact stmts_first hs (by decide)
    exact fun h => hkl ((hc.hk_iff (by decide) (by decide)).2 h)
   rw [hn2] at h'
   rcases (si (k + (n + 1))).body 0 0 l _ [] (Or.inr rfl) hc nk l3 hm with ⟨e, he⟩ | ⟨l4, he, hc4⟩
   ·rw [unit_err (r := k + n) h10 h16 he] at h'
    cases h'
   ·cases hc4 with
    | cons t4 l5 l5' ht4 h5 => exact absurd hend ht4
    | fin e f g h1 hf hg =>
     rw [unit_ok (r := k + n) h10 h16 hf hg he] at h'
     simp only [Option.some.injEq, Except.ok.injEq, Prod.mk.injEq] at h'
     rw [← h'.1]
     simp only [sB, hnk, Nd.kids]
end SP
end Go.Proofs.Ytpodpmjlkbbkoaa.P
namespace Go.Proofs.Ytpodpmjlkbbkoaa.P
open Go.RowKit Go.Proofs.YtpodpmjlkbbkoaaW.PrintWords Go.Proofs.YtpodpmjlkbbkoaaW.PrintLast Go.Proofs.YtpodpmjlkbbkoaaW.PrintMore
namespace SP
def shU (u : Use) : Use := { u with place := u.place + 1 }
def mapW : W → W
 | .error e => .error (e + 1)
 | .ok us => .ok (us.map shU)
theorem inFrames_tail (s : ByteArray) (m : Int) : ∀ (fs : List Fr) (d : Nat), inFrames s (fs ++ [([], m)]) d = inFrames s fs d
 | [], d => rfl
 | f :: r, d => by
  simp only [List.cons_append, inFrames]
  rw [inFrames_tail s m r (d + 1)]
theorem find_tail (slots : List ByteArray) (s : ByteArray) (m : Int) (fs : List Fr) : find slots s (fs ++ [([], m)]) = find slots s fs := by
 unfold find
 rw [inFrames_tail]
mutual
theorem part_sh (slots : List ByteArray) (m : Int) : ∀ (x : Nd) (fs : List Fr) (rcv : Bool) (acc : List Use), part slots (fs ++ [([], m)]) rcv (acc.map shU) (shN x) = mapW (part slots fs rcv acc x)
 | .mk kind text place n names kids, fs, rcv, acc => by
  simp only [shN, part]
  rw [find_tail]
  split
  ·split
   ·rfl
   ·simp only [mapW, List.map_append, List.map_cons, List.map_nil]
    rfl
  ·split
   ·split
    ·rfl
    ·rw [← parts_sh slots m kids fs false _]
     simp only [List.map_append, List.map_cons, List.map_nil]
     rfl
   ·split
    ·split
     ·exact parts_sh slots m kids ((names, n) :: fs) false acc
     ·rfl
    ·exact parts_sh slots m kids fs _ acc
theorem parts_sh (slots : List ByteArray) (m : Int) : ∀ (l : List Nd) (fs : List Fr) (first : Bool) (acc : List Use), parts slots (fs ++ [([], m)]) first (acc.map shU) (shL l) = mapW (parts slots fs first acc l)
 | [], fs, first, acc => rfl
 | k :: ks, fs, first, acc => by
  simp only [shL, parts]
  rw [part_sh slots m k fs first acc]
  cases part slots fs first acc k with
  | error e => rfl
  | ok a => exact parts_sh slots m ks fs false a
end
theorem resolve_within (slots : List ByteArray) {nd : Nd} (hn : nd.names = []) (h0 : nd.n = 0) (p : Int) : resolve slots (.mk 12 E 0 0 [] [.mk 10 E p 0 [] (shL nd.kids)]) = mapW (resolve slots nd) := by
 have e1 : resolve slots (.mk 12 E 0 0 [] [.mk 10 E p 0 [] (shL nd.kids)]) = parts slots [([], 0)] false [] [.mk 10 E p 0 [] (shL nd.kids)] := rfl
 have e2 : resolve slots nd = parts slots [([], 0)] false [] nd.kids := by
  unfold resolve
  rw [hn, h0]
  rfl
 rw [e1, e2]
 simp only [parts, part]
 rw [if_neg (by decide), if_neg (by decide), if_pos trivial, if_pos (by decide)]
 have h := parts_sh slots 0 nd.kids [([], 0)] false []
 simp only [List.map_nil] at h
 rw [show ([([], 0), ([], 0)] : List Fr) = [([], 0)] ++ [([], 0)] from rfl, h]
 cases parts slots [([], 0)] false [] nd.kids <;> rfl
mutual
theorem part_nice {P : ByteArray → Int → Prop} (slots : List ByteArray) : ∀ (x : Nd) (fs : List Fr) (rcv : Bool) (acc us : List Use), part slots fs rcv acc x = .ok us → Nice P x → (∀ u, u ∈ acc → P u.name u.place ∧ (u.write = true → u.kind = 3 ∨ u.kind = 4)) → ∀ u, u ∈ us → P u.name u.place ∧ (u.write = true → u.kind = 3 ∨ u.kind = 4)
 | .mk kind text place n names kids, fs, rcv, acc, us, h, hx, ha => by
  have hw : (find slots text fs).1.write = false := by
   unfold find
   split
   ·rfl
   ·split
    ·rfl
    ·split <;> rfl
  have hname : (find slots text fs).1.name = text := by
   unfold find
   split
   ·rfl
   ·split
    ·rfl
    ·split <;> rfl
  simp only [part] at h
  split at h
  ·rename_i h5
   split at h
   ·cases h
   ·have h := Except.ok.inj h
    subst h
    intro u hu
    rcases List.mem_append.1 hu with hu | hu
    ·exact ha u hu
    ·obtain rfl := List.mem_singleton.1 hu
     refine ⟨?_, fun h => ?_⟩
     ·show P (find slots text fs).1.name place
      rw [hname]
      exact hx.1 (Or.inl h5)
     ·exact absurd (show (find slots text fs).1.write = true from h) (by rw [hw]; decide)
  ·split at h
   ·rename_i h6
    split at h
    ·cases h
    ·rename_i hb
     refine parts_nice slots kids _ _ _ _ h hx.2.2 (fun u hu => ?_)
     rcases List.mem_append.1 hu with hu | hu
     ·exact ha u hu
     ·obtain rfl := List.mem_singleton.1 hu
      refine ⟨?_, fun _ => ?_⟩
      ·show P (find slots text fs).1.name place
       rw [hname]
       exact hx.1 (Or.inr h6)
      ·show (find slots text fs).1.kind = 3 ∨ (find slots text fs).1.kind = 4
       by_cases h3 : (find slots text fs).1.kind = 3
       ·exact Or.inl h3
       ·by_cases h4 : (find slots text fs).1.kind = 4
        ·exact Or.inr h4
        ·exact absurd (Or.inr ⟨h3, h4⟩) hb
   ·split at h
    ·split at h
     ·exact parts_nice slots kids _ _ _ _ h hx.2.2 ha
     ·cases h
    ·exact parts_nice slots kids _ _ _ _ h hx.2.2 ha
theorem parts_nice {P : ByteArray → Int → Prop} (slots : List ByteArray) : ∀ (l : List Nd) (fs : List Fr) (first : Bool) (acc us : List Use), parts slots fs first acc l = .ok us → NiceL P l → (∀ u, u ∈ acc → P u.name u.place ∧ (u.write = true → u.kind = 3 ∨ u.kind = 4)) → ∀ u, u ∈ us → P u.name u.place ∧ (u.write = true → u.kind = 3 ∨ u.kind = 4)
 | [], fs, first, acc, us, h, hx, ha => by
  simp only [parts] at h
  rw [← Except.ok.inj h]
  exact ha
 | k :: ks, fs, first, acc, us, h, hx, ha => by
  simp only [parts] at h
  cases hp : part slots fs first acc k with
  | error e => rw [hp] at h; cases h
  | ok a =>
   rw [hp] at h
   exact parts_nice slots ks _ _ _ _ h hx.2 (part_nice slots k _ _ _ _ hp hx.1 ha)
end
theorem resolve_nice {P : ByteArray → Int → Prop} {slots : List ByteArray} {x : Nd} {us : List Use} (h : resolve slots x = .ok us) (hx : Nice P x) : ∀ u, u ∈ us → P u.name u.place ∧ (u.write = true → u.kind = 3 ∨ u.kind = 4) := by
 unfold resolve at h
 split at h
 ·exact parts_nice slots _ _ _ _ _ h hx.kids (fun u hu => by cases hu)
 ·cases h
end SP
theorem co_of {ok : List UInt8 → Bool} {l : List UInt8} {o : Nat} {ts : List PL.Tk} (h : PL.Rd ok l o ts) {f g : S28} (hf : f.f0 = 11) (hg : g.f0 = 0) : SP.Co (ts.map tk) ((ts.map PL.up).dropLast.map tk ++ [f, g]) := by
 induction h with
 | nil o => exact SP.Co.fin _ f g rfl hf hg
 | blank h k ih => exact ih
 | note hb hc hk h ih => exact ih
 | @word c r o x ts hb hc hx h ih =>
  have hne := h.ne
  have h0 := (PL.wordL_le hx).2.2.2
  cases ts with
  | nil => exact absurd rfl hne
  | cons t ts =>
   exact SP.Co.cons (tk ⟨x.1, x.2.1, o⟩) _ _ (by show ((x.1 : Nat) : Int) ≠ 0; omega) ih
def brk (s : ByteArray) : ByteArray := (⟨#[91]⟩ : ByteArray) ++ s ++ (⟨#[93]⟩ : ByteArray)
theorem brk_list (s : ByteArray) : (brk s).data.toList = 91 :: (s.data.toList ++ [93]) := by
 unfold brk
 rw [ByteArray.data_append, ByteArray.data_append, Array.toList_append, Array.toList_append]
 rfl
theorem brk_size (s : ByteArray) : (brk s).size = s.size + 2 := by
 rw [← size_list, brk_list, ← size_list s]
 simp
theorem words_brk {s : ByteArray} {ts : List PL.Tk} (hs : s.size ≤ 3000) (h : PL.Rd (okL okNum) s.data.toList 0 ts) : readS okNum (brk s) = ((⟨10, [91], 0⟩ :: ((ts.map PL.up).dropLast ++ [⟨11, [93], s.data.toList.length + 1⟩, ⟨0, [], s.data.toList.length + 2⟩])).map tk, 0, 0) := by
 unfold readS
 rw [if_pos (by rw [brk_size]; omega), brk_list, PL.read_within h]
theorem within_plain {s : ByteArray} {slots : List ByteArray} (hs : s.size ≤ 3000) (h1 : (parseS s).2.2 = 0) (hn : (parseS s).1.names = []) (h2 : (parseS (brk s)).2.2 = 0) : SP.resolve slots (parseS (brk s)).1 = SP.mapW (SP.resolve slots (parseS s).1) := by
 obtain ⟨ts, l2, _, hrd, hu, _, _⟩ := parseS_ok h1
 obtain ⟨ts2, l2', _, hrd2, hu2, _, _⟩ := parseS_ok h2
 have hw := words_brk hs hrd
 have hw2 : readS okNum (brk s) = (ts2.map tk, 0, 0) := by
  unfold readS
  rw [if_pos (by rw [brk_size]; omega), hrd2.read]
 rw [hw] at hw2
 simp only [Prod.mk.injEq, and_true] at hw2
 rw [← hw2] at hu2
 simp only [List.map_cons, List.map_append, List.map_nil] at hu2
 have hco := co_of hrd (f := tk ⟨11, [93], s.data.toList.length + 1⟩) (g := tk ⟨0, [], s.data.toList.length + 2⟩) rfl rfl
 have hlen : (ts.map tk).length ≤ (((ts.map PL.up).dropLast.map tk ++ [tk ⟨11, [93], s.data.toList.length + 1⟩, tk ⟨0, [], s.data.toList.length + 2⟩])).length := by
  simp only [List.length_map, List.length_append, List.length_dropLast, List.length_cons, List.length_nil]
  omega
 obtain ⟨e, h0⟩ := SP.unit_within (by rw [List.length_cons]; omega) hco rfl hu hn hu2
 rw [e]
 exact SP.resolve_within slots hn h0 _
theorem law_within.all (s : ByteArray) (slots : List ByteArray) (As : Option Addr) (cs : Nat) (w : World) (hs : SL (fun k => k < w.heap.size) w As cs slots) : Calls Try.prog 4 #[.string s, .slice As slots.length cs] w fun e w' => e = .returned (.bool true) ∧ Below w.heap.size w w' := by
 have hk7 : KnownC := fun w => (lapidarylaw09_known.calls 10 true w (known_ev (Nat.le_refl _))).mono fun e w' h => h
 have hres : ∀ (t : ByteArray) (w : World) (As : Option Addr) (cs : Nat), SL (fun k => k < w.heap.size) w As cs slots → Calls Try.prog 6 #[.string t, .bool false, .slice As slots.length cs] w (RsB (resolvedS (parseS t).1 (parseS t).2.2 slots).1 (resolvedS (parseS t).1 (parseS t).2.2 slots).2.1 (resolvedS (parseS t).1 (parseS t).2.2 slots).2.2.1 (resolvedS (parseS t).1 (parseS t).2.2 slots).2.2.2 w) :=
  fun t w As cs hs => law_resolved.plain (tree_parse.all t) (by have := parseS_cnt t; omega) w hs
 have h10 := tree_parse.all s
 have h6 := hres s
 cases ho : (resolvedS (parseS s).1 (parseS s).2.2 slots).2.2.2 with
 | false => exact law_within.skip w h10 h6 hk7 hs (Or.inl ho)
 | true =>
  rw [ho] at h6
  cases hy : ((resolvedS (parseS s).1 (parseS s).2.2 slots).2.2.1 != 0) with
  | true => exact law_within.skip w h10 h6 hk7 hs (Or.inr (Or.inl ⟨rfl, hy⟩))
  | false =>
   cases hnl : decide (0 < (parseS s).1.names.length) with
   | true => exact law_within.skip w h10 h6 hk7 hs (Or.inr (Or.inr (Or.inl ⟨rfl, hy, hnl⟩)))
   | false =>
    cases hsz : decide ((3000 : Int) < (s.size : Int)) with
    | true => exact law_within.skip w h10 h6 hk7 hs (Or.inr (Or.inr (Or.inr ⟨rfl, hy, hnl, hsz⟩)))
    | false =>
     have h6b := hres (brk s)
     cases ho2 : (resolvedS (parseS (brk s)).1 (parseS (brk s)).2.2 slots).2.2.2 with
     | false => exact law_within.gone w h10 h6 h6b hk7 hs hy hnl hsz ho2
     | true =>
      have hy0 : (resolvedS (parseS s).1 (parseS s).2.2 slots).2.2.1 = 0 := by simpa using hy
      have hrs : (parseS s).2.2 = 0 ∧ SP.resolve slots (parseS s).1 = .ok (resolvedS (parseS s).1 (parseS s).2.2 slots).1 := by
       unfold resolvedS at ho hy0 ⊢
       split at ho
       ·rename_i h0
        rw [if_pos h0] at hy0 ⊢
        refine ⟨h0, ?_⟩
        cases h : SP.resolve slots (parseS s).1 with
        | error p => rw [h] at hy0; exact absurd (show (21 : Int) = 0 from hy0) (by decide)
        | ok us => rfl
       ·cases ho
      have h20 : (parseS (brk s)).2.2 = 0 := by
       unfold resolvedS at ho2
       split at ho2
       ·assumption
       ·cases ho2
      have hnn : (parseS s).1.names = [] := by
       have := of_decide_eq_false hnl
       exact List.length_eq_zero_iff.1 (by omega)
      have hs3 : s.size ≤ 3000 := by have := of_decide_eq_false hsz; omega
      have hw := within_plain (slots := slots) hs3 hrs.1 hnn h20
      rw [hrs.2] at hw
      have e2 : resolvedS (parseS (brk s)).1 (parseS (brk s)).2.2 slots = ((resolvedS (parseS s).1 (parseS s).2.2 slots).1.map SP.shU, 0, 0, true) := by
       rw [show resolvedS (parseS (brk s)).1 (parseS (brk s)).2.2 slots = ofW (SP.resolve slots (parseS (brk s)).1) from if_pos h20, hw]
       rfl
      rw [e2] at h6b
      obtain ⟨ts, l2, hs4, _, _, hni, hcn⟩ := parseS_ok hrs.1
      have hnice := SP.resolve_nice hrs.2 hni
      refine law_within.both w h10 h6 h6b hk7 hs hy hnl hsz rfl rfl rfl (fun u hu => ?_) ?_
      ·obtain ⟨⟨n, e, h1, _⟩, _⟩ := hnice u hu
       rw [e]
       omega
      ·have : (resolvedS (parseS s).1 (parseS s).2.2 slots).1.length ≤ SP.cnt (parseS s).1 := by
        have h := hrs.2
        unfold SP.resolve at h
        rw [SP.cnt_eq]
        split at h
        ·have := SP.parts_len slots _ _ _ _ _ h
         simp only [List.length_nil] at this
         omega
        ·cases h
       omega
end Go.Proofs.Ytpodpmjlkbbkoaa.P
