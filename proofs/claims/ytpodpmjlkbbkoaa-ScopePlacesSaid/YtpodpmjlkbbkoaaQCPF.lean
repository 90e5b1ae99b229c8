import Derived.Test.YtpodpmjlkbbkoaaQCTA
set_option linter.all false
namespace Go.Proofs.Ytpodpmjlkbbkoaa.P
namespace SP
mutual
def cnt : Nd → Nat
 | .mk _ _ _ _ _ ks => 1 + cntL ks
def cntL : List Nd → Nat
 | [] => 0
 | k :: ks => cnt k + cntL ks
end
theorem cnt_eq (x : Nd) : cnt x = 1 + cntL x.kids := by
 cases x
 simp only [cnt, Nd.kids]
theorem cnt_mem {y : Nd} : ∀ {l : List Nd}, y ∈ l → cnt y ≤ cntL l
 | k :: ks, h => by
  simp only [cntL]
  rcases List.mem_cons.1 h with rfl | h
  ·omega
  ·have := cnt_mem h; omega
theorem len_cnt : ∀ l : List Nd, l.length ≤ cntL l
 | [] => by simp [cntL]
 | k :: ks => by
  have h1 := len_cnt ks
  have h2 := cnt_eq k
  simp only [cntL, List.length_cons]
  omega
mutual
theorem part_len (slots : List ByteArray) : ∀ (x : Nd) (fs : List Fr) (rcv : Bool) (acc acc2 : List Use), part slots fs rcv acc x = .ok acc2 → acc2.length ≤ acc.length + cnt x
 | .mk kind text place n names kids, fs, rcv, acc, acc2, h => by
  simp only [part] at h
  simp only [cnt]
  split at h
  ·split at h
   ·cases h
   ·have h := Except.ok.inj h
    subst h
    simp only [List.length_append, List.length_cons, List.length_nil]
    omega
  ·split at h
   ·split at h
    ·cases h
    ·have := parts_len slots kids _ _ _ _ h
     simp only [List.length_append, List.length_cons, List.length_nil] at this
     omega
   ·split at h
    ·split at h
     ·have := parts_len slots kids _ _ _ _ h
      omega
     ·cases h
    ·have := parts_len slots kids _ _ _ _ h
     omega
theorem parts_len (slots : List ByteArray) : ∀ (l : List Nd) (fs : List Fr) (first : Bool) (acc acc2 : List Use), parts slots fs first acc l = .ok acc2 → acc2.length ≤ acc.length + cntL l
 | [], fs, first, acc, acc2, h => by
  simp only [parts] at h
  have h := Except.ok.inj h
  subst h
  simp only [cntL]
  omega
 | k :: ks, fs, first, acc, acc2, h => by
  simp only [parts] at h
  simp only [cntL]
  cases hp : part slots fs first acc k with
  | error e => rw [hp] at h; cases h
  | ok a =>
   rw [hp] at h
   have h1 := part_len slots k _ _ _ _ hp
   have h2 := parts_len slots ks _ _ _ _ h
   omega
end
end SP
end Go.Proofs.Ytpodpmjlkbbkoaa.P
namespace Go.Proofs.Ytpodpmjlkbbkoaa.P
namespace SP
section
variable {P : ByteArray → Int → Prop}
def WF (P : ByteArray → Int → Prop) : List Tk → Prop
 | [] => False
 | t :: l => (t.f0 = 1 → P t.f1 t.f2) ∧ (t.f0 = 0 ∨ WF P l)
mutual
def Nice (P : ByteArray → Int → Prop) : Nd → Prop
 | .mk kind text place _ _ kids => (kind = 5 ∨ kind = 6 → P text place) ∧ (kind = 7 → kids ≠ []) ∧ NiceL P kids
def NiceL (P : ByteArray → Int → Prop) : List Nd → Prop
 | [] => True
 | k :: ks => Nice P k ∧ NiceL P ks
end
theorem NiceL.app {n : Nd} : ∀ {l : List Nd}, NiceL P l → Nice P n → NiceL P (l ++ [n])
 | [], _, h => ⟨h, trivial⟩
 | k :: ks, h, hn => ⟨h.1, NiceL.app h.2 hn⟩
theorem Nice.kids {n : Nd} (h : Nice P n) : NiceL P n.kids := by
 cases n
 exact h.2.2
theorem Nice.seven {n : Nd} (h : Nice P n) : n.kind = 7 → n.kids ≠ [] := by
 cases n
 exact h.2.1
theorem Nice.plain {k : Int} {t : ByteArray} {p n : Int} {ns : List ByteArray} {ks : List Nd} (h5 : k ≠ 5) (h6 : k ≠ 6) (h7 : k ≠ 7) (h : NiceL P ks) : Nice P (.mk k t p n ns ks) := ⟨fun e => (e.elim h5 h6).elim, fun e => (h7 e).elim, h⟩
theorem cntL_app {n : Nd} : ∀ {l : List Nd}, cntL (l ++ [n]) = cntL l + cnt n
 | [] => by simp [cntL]
 | k :: ks => by
  have := @cntL_app n ks
  simp only [List.cons_append, cntL]
  omega
theorem cnt_pos (n : Nd) : 1 ≤ cnt n := by rw [cnt_eq]; omega
theorem WF.tl : ∀ {l : List Tk}, WF P l → WF P (tl l)
 | t :: l, h => by
  show WF P (if t.f0 = 0 then t :: l else l)
  split
  ·exact h
  ·rename_i h0
   exact h.2.resolve_left h0
theorem tl_le : ∀ l : List Tk, (tl l).length ≤ l.length
 | [] => by simp [tl]
 | t :: l => by
  show (if t.f0 = 0 then t :: l else l).length ≤ _
  split
  ·exact Nat.le_refl _
  ·simp
theorem tl_lt : ∀ {l : List Tk}, WF P l → hk l ≠ 0 → (tl l).length + 1 = l.length
 | t :: l, _, h => by
  show (if t.f0 = 0 then t :: l else l).length + 1 = _
  rw [if_neg (show ¬ t.f0 = 0 from h)]
  simp
def Good (P : ByteArray → Int → Prop) {α : Type} (R : α → List Tk → Prop) (x : PR α) : Prop := ∃ r, x = some r ∧ (∀ e, r = .error e → e.2 ≠ 0) ∧ ∀ a l2, r = .ok (a, l2) → WF P l2 ∧ R a l2
theorem Good.ret {α : Type} {R : α → List Tk → Prop} {a : α} {l : List Tk} (hw : WF P l) (h : R a l) : Good P R (ret a l) := ⟨_, rfl, fun e h => (by cases h), fun a2 l2 e => by
 have e := Except.ok.inj e
 simp only [Prod.mk.injEq] at e
 obtain ⟨rfl, rfl⟩ := e
 exact ⟨hw, h⟩⟩
theorem Good.bad {α : Type} {R : α → List Tk → Prop} {l : List Tk} (why : Int) (hw : WF P l) (h0 : why ≠ 0 := by decide) : Good P R (bad l why) := by
 cases l with
 | nil => exact hw.elim
 | cons t l => exact ⟨_, rfl, fun e h => (by cases Except.error.inj h; exact h0), fun a2 l2 e => (by cases e)⟩
theorem Good.bind {α β : Type} {R : α → List Tk → Prop} {S : β → List Tk → Prop} {x : PR α} {f : α → List Tk → PR β} (hx : Good P R x) (hf : ∀ a l2, WF P l2 → R a l2 → Good P S (f a l2)) : Good P S (bind x f) := by
 obtain ⟨r, rfl, h0, h⟩ := hx
 cases r with
 | error e => exact ⟨_, rfl, fun e2 h2 => (by cases Except.error.inj h2; exact h0 _ rfl), fun a2 l2 e => (by cases e)⟩
 | ok y =>
  obtain ⟨h1, h2⟩ := h y.1 y.2 rfl
  exact hf y.1 y.2 h1 h2
theorem Good.top {α : Type} {R : α → List Tk → Prop} {l : List Tk} {f : Tk → PR α} (hw : WF P l) (h : ∀ t l', l = t :: l' → hk l = t.f0 → Good P R (f t)) : Good P R (top l f) := by
 cases l with
 | nil => exact hw.elim
 | cons t l => exact h t l rfl rfl
theorem Good.need {l : List Tk} (k : Int) (hk0 : k ≠ 0) (hw : WF P l) : Good P (fun t l2 => l2.length + 1 = l.length ∧ t.f0 = k ∧ (k = 1 → P t.f1 t.f2)) (need k l) := by
 refine Good.top hw fun t l' e hh => ?_
 split
 ·rename_i h
  refine Good.ret hw.tl ⟨tl_lt hw (by rw [hh, h]; exact hk0), h, fun h1 => ?_⟩
  subst e
  exact hw.1 (h.trans h1)
 ·exact Good.bad _ hw
theorem Good.within {α : Type} {R : α → List Tk → Prop} {l : List Tk} {f : Int → List Tk → PR α} (d : Int) (hw : WF P l) (h0 : hk l ≠ 0) (h : ∀ l2, WF P l2 → l2.length + 1 = l.length → Good P R (f (d + 1) l2)) : Good P R (within d l f) := by
 unfold SP.within
 split
 ·exact Good.bad _ hw
 ·exact h _ hw.tl (tl_lt hw h0)
theorem Good.mono {α : Type} {R S : α → List Tk → Prop} {x : PR α} (hx : Good P R x) (h : ∀ a l2, R a l2 → S a l2) : Good P S x := by
 obtain ⟨r, e, h0, hr⟩ := hx
 exact ⟨r, e, h0, fun a l2 e => ⟨(hr a l2 e).1, h _ _ (hr a l2 e).2⟩⟩
theorem namesWhile_wf : ∀ (l : List Tk) (acc : List ByteArray), WF P l → WF P (namesWhile l acc).2 ∧ (namesWhile l acc).2.length ≤ l.length
 | t :: l, acc, h => by
  unfold namesWhile
  split
  ·rename_i h1
   have := namesWhile_wf l (acc ++ [t.f1]) (h.2.resolve_left (by omega))
   exact ⟨this.1, Nat.le_trans this.2 (by simp)⟩
  ·exact ⟨h, Nat.le_refl _⟩
theorem Good.temps {l : List Tk} (ns : List ByteArray) (hw : WF P l) : Good P (fun _ l2 => l2.length ≤ l.length) (temps ns l) := by
 unfold SP.temps
 split
 ·rename_i h
  have h1 := namesWhile_wf (SP.tl l) ns hw.tl
  have h2 := tl_le l
  exact (Good.need 12 (by decide) h1.1).bind fun t l2 hw2 h3 => Good.ret hw2 (by have := h3.1; omega)
 ·exact Good.ret hw (Nat.le_refl _)
theorem Good.args : ∀ (k : Nat) (l : List Tk) (ns : List ByteArray), WF P l → l.length + 1 ≤ k → Good P (fun _ l2 => l2.length ≤ l.length) (args k l ns)
 | 0, l, ns, hw, h => by omega
 | k + 1, l, ns, hw, h => by
  unfold SP.args
  refine Good.top hw fun u l' e hh => ?_
  split
  ·rename_i h1
   have h3 := tl_lt hw (by rw [hh, h1]; decide)
   refine (Good.need 1 (by decide) hw.tl).bind fun t l2 hw2 h2 => ?_
   refine (Good.args k l2 _ hw2 (by have := h2.1; omega)).mono fun a l3 h4 => ?_
   have := h2.1
   omega
  ·exact Good.ret hw (Nat.le_refl _)
abbrev RN (P : ByteArray → Int → Prop) (l : List Tk) (n : Nd) (l2 : List Tk) : Prop := Nice P n ∧ cnt n + l2.length ≤ l.length
abbrev RP (P : ByteArray → Int → Prop) (m : Nat) (l : List Tk) (n : Nd × Bool) (l2 : List Tk) : Prop := Nice P n.1 ∧ cnt n.1 + l2.length ≤ m + l.length
structure Tot (P : ByteArray → Int → Prop) (k : Nat) : Prop where
 expr : ∀ d l, WF P l → 16 * l.length + 9 ≤ k → Good P (RN P l) (expr k d l)
 casc : ∀ d l, WF P l → 16 * l.length + 8 ≤ k → Good P (RN P l) (casc k d l)
 cascs : ∀ d l ks, WF P l → NiceL P ks → 16 * l.length + 1 ≤ k → Good P (fun r l2 => NiceL P r ∧ cntL r + l2.length + (if hk l = 15 then 1 else 0) ≤ cntL ks + l.length) (cascs k d l ks)
 msg : ∀ d l, WF P l → 16 * l.length + 2 ≤ k → Good P (RN P l) (msg k d l)
 keys : ∀ d l tx ks, WF P l → NiceL P ks → 16 * l.length + 1 ≤ k → Good P (fun r l2 => NiceL P r.2 ∧ cntL r.2 + l2.length + (if hk l = 2 then 1 else 0) ≤ cntL ks + l.length) (keys k d l tx ks)
 sent : ∀ d n l, WF P l → Nice P n → 16 * l.length + 3 ≤ k → Good P (fun m l2 => Nice P m ∧ cnt m + l2.length ≤ cnt n + l.length ∧ l2.length + 1 ≤ l.length) (sent k d n l)
 keyed : ∀ d l, WF P l → 16 * l.length + 7 ≤ k → Good P (RP P 0 l) (keyed k d l)
 binary : ∀ d l, WF P l → 16 * l.length + 6 ≤ k → Good P (RP P 0 l) (binary k d l)
 unary : ∀ d l, WF P l → 16 * l.length + 5 ≤ k → Good P (RP P 0 l) (unary k d l)
 chain : ∀ d kd np l, WF P l → Nice P np.1 → 16 * l.length + 4 ≤ k → Good P (RP P (cnt np.1) l) (chain k d kd np l)
 prim : ∀ d l, WF P l → 16 * l.length + 2 ≤ k → Good P (RP P 0 l) (prim k d l)
 list : ∀ d l, WF P l → hk l ≠ 0 → 16 * l.length + 1 ≤ k → Good P (RN P l) (list k d l)
 elems : ∀ d l ks, WF P l → NiceL P ks → 16 * l.length + 3 ≤ k → Good P (fun r l2 => NiceL P r ∧ cntL r + l2.length ≤ cntL ks + l.length) (elems k d l ks)
 elem : ∀ d l, WF P l → 16 * l.length + 2 ≤ k → Good P (RN P l) (elem k d l)
 block : ∀ d l, WF P l → hk l ≠ 0 → 16 * l.length + 1 ≤ k → Good P (RN P l) (block k d l)
 body : ∀ d e l ns, WF P l → 16 * l.length + 12 ≤ k → Good P (fun r l2 => NiceL P r.2 ∧ cntL r.2 + l2.length ≤ l.length) (body k d e l ns)
 stmts : ∀ d e l ks, WF P l → NiceL P ks → 16 * l.length + 11 ≤ k → Good P (fun r l2 => NiceL P r ∧ cntL r + l2.length ≤ cntL ks + l.length) (stmts k d e l ks)
 stmt : ∀ d l, WF P l → 16 * l.length + 10 ≤ k → Good P (RP P 0 l) (stmt k d l)
theorem tot : ∀ k, Tot P k
 | 0 => by constructor <;> intros <;> omega
 | k + 1 => by
  have T : Tot P k := tot k
  constructor
  case expr =>
   intro d l hw h
   unfold SP.expr
   refine Good.top hw fun t l' e hh => ?_
   split
   ·rename_i h1
    subst e
    have hw1 := hw.2.resolve_left (by omega)
    cases l' with
    | nil => exact hw1.elim
    | cons u r =>
     simp only [List.drop_succ_cons, List.drop_zero]
     split
     ·rename_i h7
      simp only [List.length_cons] at h
      refine Good.within d hw1 (by show u.f0 ≠ 0; omega) fun l2 hw2 hl2 => ?_
      simp only [List.length_cons] at hl2
      refine (T.expr (d + 1) l2 hw2 (by omega)).bind fun a l3 hw3 h3 => ?_
      refine Good.ret hw3 ⟨⟨fun _ => hw.1 h1, fun e => absurd e (by decide), h3.1, trivial⟩, ?_⟩
      have := h3.2
      simp only [cnt, cntL, List.length_cons]
      omega
     ·exact T.casc d _ hw (by omega)
   ·exact T.casc d l hw (by omega)
  case casc =>
   intro d l hw h
   unfold SP.casc
   refine (T.keyed d l hw (by omega)).bind fun np l2 hw2 h2 => ?_
   obtain ⟨hn, hc⟩ := h2
   refine Good.top hw2 fun u l' e hh => ?_
   split
   ·rename_i h15
    split
    ·rename_i h7
     have hk7 := hn.seven h7.1
     have hkn := hn.kids
     have hce := cnt_eq np.1
     cases hks : np.1.kids with
     | nil => exact (hk7 hks).elim
     | cons rcv r =>
      rw [hks] at hkn hce
      simp only [cntL] at hce
      refine (T.cascs d l2 _ hw2 (show NiceL P [rcv, .mk 9 np.1.text np.1.place 0 [] r] from ⟨hkn.1, Nice.plain (by decide) (by decide) (by decide) hkn.2, trivial⟩) (by omega)).bind fun ks l3 hw3 h3 => ?_
      refine Good.ret hw3 ⟨Nice.plain (by decide) (by decide) (by decide) h3.1, ?_⟩
      have h4 := h3.2
      rw [if_pos (by rw [hh, h15])] at h4
      simp only [cnt, cntL] at h4 ⊢
      omega
    ·exact Good.bad _ hw2
   ·exact Good.ret hw2 ⟨hn, by omega⟩
  case cascs =>
   intro d l ks hw hks h
   unfold SP.cascs
   refine Good.top hw fun u l' e hh => ?_
   by_cases h15 : u.f0 = 15
   ·rw [if_pos h15]
    have h3 := tl_lt hw (by rw [hh, h15]; decide)
    rw [if_pos (by rw [hh, h15])]
    refine (T.msg d _ hw.tl (by omega)).bind fun m l2 hw2 h2 => ?_
    have hp := cnt_pos m
    have := h2.2
    refine (T.cascs d l2 _ hw2 (hks.app h2.1) (by omega)).mono fun r l4 h4 => ⟨h4.1, ?_⟩
    have h5 := h4.2
    rw [cntL_app] at h5
    split at h5 <;> omega
   ·rw [if_neg h15]
    rw [if_neg (by rw [hh]; exact h15)]
    exact Good.ret hw ⟨hks, by omega⟩
  case msg =>
   intro d l hw h
   unfold SP.msg
   refine Good.top hw fun t l' e hh => ?_
   split
   ·rename_i h1
    have h3 := tl_lt hw (by rw [hh, h1]; decide)
    exact Good.ret hw.tl ⟨Nice.plain (by decide) (by decide) (by decide) trivial, by simp only [cnt, cntL]; omega⟩
   split
   ·rename_i h1
    have h3 := tl_lt hw (by rw [hh, h1]; decide)
    refine (T.unary d _ hw.tl (by omega)).bind fun np l2 hw2 h2 => ?_
    refine Good.ret hw2 ⟨Nice.plain (by decide) (by decide) (by decide) ⟨h2.1, trivial⟩, ?_⟩
    have := h2.2
    simp only [cnt, cntL]
    omega
   split
   ·rename_i h1
    refine (T.keys d l E [] hw trivial (by omega)).bind fun tk l2 hw2 h2 => ?_
    refine Good.ret hw2 ⟨Nice.plain (by decide) (by decide) (by decide) h2.1, ?_⟩
    have h4 := h2.2
    rw [if_pos (by rw [hh, h1])] at h4
    simp only [cnt, cntL] at h4 ⊢
    omega
   ·exact Good.bad _ hw
  case keys =>
   intro d l tx ks hw hks h
   unfold SP.keys
   refine Good.top hw fun t l' e hh => ?_
   by_cases h15 : t.f0 = 2
   ·rw [if_pos h15]
    have h3 := tl_lt hw (by rw [hh, h15]; decide)
    rw [if_pos (by rw [hh, h15])]
    refine (T.binary d _ hw.tl (by omega)).bind fun np l2 hw2 h2 => ?_
    have hp := cnt_pos np.1
    have := h2.2
    refine (T.keys d l2 _ _ hw2 (hks.app h2.1) (by omega)).mono fun r l4 h4 => ⟨h4.1, ?_⟩
    have h5 := h4.2
    rw [cntL_app] at h5
    split at h5 <;> omega
   ·rw [if_neg h15]
    rw [if_neg (by rw [hh]; exact h15)]
    exact Good.ret hw ⟨hks, by simp only; omega⟩
  case sent =>
   intro d n l hw hn h
   unfold SP.sent
   refine (T.msg d l hw (by omega)).bind fun m l2 hw2 h2 => ?_
   have hce := cnt_eq m
   have := h2.2
   exact Good.ret hw2 ⟨⟨fun e => by omega, fun _ => by simp, hn, h2.1.kids⟩, by simp only [cnt, cntL]; omega, by omega⟩
  case keyed =>
   intro d l hw h
   unfold SP.keyed
   refine (T.binary d l hw (by omega)).bind fun np l2 hw2 h2 => ?_
   have := h2.2
   refine Good.top hw2 fun u l' e hh => ?_
   split
   ·refine (T.sent d np.1 l2 hw2 h2.1 (by omega)).bind fun m l3 hw3 h3 => Good.ret hw3 ⟨h3.1, ?_⟩
    have := h3.2.1
    simp only
    omega
   ·exact Good.ret hw2 h2
  case binary =>
   intro d l hw h
   unfold SP.binary
   refine (T.unary d l hw (by omega)).bind fun np l2 hw2 h2 => ?_
   have := h2.2
   refine (T.chain d 3 np l2 hw2 h2.1 (by omega)).mono fun a l3 h3 => ⟨h3.1, ?_⟩
   have := h3.2
   omega
  case unary =>
   intro d l hw h
   unfold SP.unary
   refine (T.prim d l hw (by omega)).bind fun np l2 hw2 h2 => ?_
   have := h2.2
   refine (T.chain d 1 np l2 hw2 h2.1 (by omega)).mono fun a l3 h3 => ⟨h3.1, ?_⟩
   have := h3.2
   omega
  case chain =>
   intro d kd np l hw hn h
   unfold SP.chain
   refine Good.top hw fun u l' e hh => ?_
   split
   ·refine (T.sent d np.1 l hw hn (by omega)).bind fun m l2 hw2 h2 => ?_
    have h3 := h2.2.1
    have h4 := h2.2.2
    refine (T.chain d kd (m, true) l2 hw2 h2.1 (by omega)).mono fun a l3 h5 => ⟨h5.1, ?_⟩
    have := h5.2
    simp only at this
    omega
   ·exact Good.ret hw ⟨hn, by omega⟩
  case prim =>
   intro d l hw h
   unfold SP.prim
   refine Good.top hw fun t l' e hh => ?_
   split
   ·rename_i h1
    have h3 := tl_lt hw (by rw [hh, h1]; decide)
    subst e
    exact Good.ret hw.tl ⟨⟨fun _ => hw.1 h1, fun e => absurd e (by decide), trivial⟩, by simp only [cnt, cntL]; omega⟩
   split
   ·rename_i h1
    have h3 := tl_lt hw (by rw [hh, h1]; decide)
    exact Good.ret hw.tl ⟨Nice.plain (by decide) (by decide) (by decide) trivial, by simp only [cnt, cntL]; omega⟩
   split
   ·rename_i h1
    have h3 := tl_lt hw (by rw [hh, h1]; decide)
    exact Good.ret hw.tl ⟨Nice.plain (by decide) (by decide) (by decide) trivial, by simp only [cnt, cntL]; omega⟩
   split
   ·rename_i h1
    have h3 := tl_lt hw (by rw [hh, h1]; decide)
    exact Good.ret hw.tl ⟨Nice.plain (by decide) (by decide) (by decide) trivial, by simp only [cnt, cntL]; omega⟩
   split
   ·rename_i h1
    refine (T.list d l hw (by rw [hh, h1]; decide) (by omega)).bind fun n l2 hw2 h2 => Good.ret hw2 ⟨h2.1, ?_⟩
    have := h2.2
    simp only
    omega
   split
   ·rename_i h1
    refine (T.block d l hw (by rw [hh, h1]; decide) (by omega)).bind fun n l2 hw2 h2 => Good.ret hw2 ⟨h2.1, ?_⟩
    have := h2.2
    simp only
    omega
   split
   ·rename_i h1
    refine Good.within d hw (by rw [hh, h1]; decide) fun l2 hw2 hl2 => ?_
    refine (T.expr (d + 1) l2 hw2 (by omega)).bind fun n l3 hw3 h3 => ?_
    refine (Good.need 9 (by decide) hw3).bind fun _ l4 hw4 h4 => Good.ret hw4 ⟨h3.1, ?_⟩
    have := h3.2
    have := h4.1
    simp only
    omega
   ·exact Good.bad _ hw
  case list =>
   intro d l hw h0 h
   unfold SP.list
   refine Good.top hw fun t l' e hh => ?_
   refine Good.within d hw h0 fun l2 hw2 hl2 => ?_
   refine (T.elems (d + 1) l2 [] hw2 trivial (by omega)).bind fun ks l3 hw3 h3 => ?_
   refine Good.ret hw3.tl ⟨Nice.plain (by decide) (by decide) (by decide) h3.1, ?_⟩
   have h4 := h3.2
   have := tl_le l3
   simp only [cnt, cntL] at h4 ⊢
   omega
  case elems =>
   intro d l ks hw hks h
   unfold SP.elems
   split
   ·exact Good.ret hw ⟨hks, Nat.le_refl _⟩
   ·refine (T.elem d l hw (by omega)).bind fun n l2 hw2 h2 => ?_
    have hp := cnt_pos n
    have := h2.2
    refine (T.elems d l2 _ hw2 (hks.app h2.1) (by omega)).mono fun r l3 h3 => ⟨h3.1, ?_⟩
    have h4 := h3.2
    rw [cntL_app] at h4
    omega
  case elem =>
   intro d l hw h
   unfold SP.elem
   refine Good.top hw fun t l' e hh => ?_
   split
   ·rename_i h1
    exact T.list d l hw (by rw [hh]; omega) (by omega)
   split
   ·rename_i h1
    have h3 := tl_lt hw (by rw [hh, h1]; decide)
    exact Good.ret hw.tl ⟨Nice.plain (by decide) (by decide) (by decide) trivial, by simp only [cnt, cntL]; omega⟩
   split
   ·rename_i h1
    have h3 := tl_lt hw (by rw [hh, h1]; decide)
    exact Good.ret hw.tl ⟨Nice.plain (by decide) (by decide) (by decide) trivial, by simp only [cnt, cntL]; omega⟩
   split
   ·rename_i h1
    have h3 := tl_lt hw (by rw [hh, h1]; decide)
    refine Good.ret hw.tl ⟨Nice.plain ?_ ?_ ?_ trivial, by simp only [cnt, cntL]; omega⟩ <;> (split <;> decide)
   split
   ·rename_i h1
    have h3 := tl_lt hw (by rw [hh]; omega)
    exact Good.ret hw.tl ⟨Nice.plain (by decide) (by decide) (by decide) trivial, by simp only [cnt, cntL]; omega⟩
   ·exact Good.bad _ hw
  case block =>
   intro d l hw h0 h
   unfold SP.block
   refine Good.top hw fun t l' e hh => ?_
   refine Good.within d hw h0 fun l2 hw2 hl2 => ?_
   refine (Good.args k l2 [] hw2 (by omega)).bind fun ns l3 hw3 h3 => ?_
   have hlen : ∀ (x : PR Unit), (x = SP.bind (need 12 l3) (fun _ l4 => SP.ret () l4) ∨ x = SP.ret () l3) → Good P (fun _ l4 => l4.length ≤ l3.length) x := by
    rintro x (rfl | rfl)
    ·exact (Good.need 12 (by decide) hw3).bind fun _ l4 hw4 h4 => Good.ret hw4 (by have := h4.1; omega)
    ·exact Good.ret hw3 (Nat.le_refl _)
   refine (hlen _ (by split; exact Or.inl rfl; exact Or.inr rfl)).bind fun _ l4 hw4 h4 => ?_
   refine (T.body (d + 1) 11 l4 ns hw4 (by omega)).bind fun nk l5 hw5 h5 => ?_
   refine Good.ret hw5.tl ⟨Nice.plain (by decide) (by decide) (by decide) h5.1, ?_⟩
   have := h5.2
   have := tl_le l5
   simp only [cnt]
   omega
  case body =>
   intro d e l ns hw h
   unfold SP.body
   refine (Good.temps ns hw).bind fun ns2 l2 hw2 h2 => ?_
   refine (T.stmts d e l2 [] hw2 trivial (by omega)).bind fun ks l3 hw3 h3 => Good.ret hw3 ⟨h3.1, ?_⟩
   have h4 := h3.2
   simp only [cntL] at h4
   simp only
   omega
  case stmts =>
   intro d e l ks hw hks h
   unfold SP.stmts
   split
   ·exact Good.ret hw ⟨hks, Nat.le_refl _⟩
   ·refine (T.stmt d l hw (by omega)).bind fun nl l2 hw2 h2 => ?_
    have hp := cnt_pos nl.1
    have h5 := h2.2
    have h6 := tl_le l2
    split
    ·split
     ·split
      ·exact Good.ret hw2.tl ⟨hks.app h2.1, by rw [cntL_app]; omega⟩
      ·exact Good.bad _ hw2.tl
     ·refine (T.stmts d e (SP.tl l2) _ hw2.tl (hks.app h2.1) (by omega)).mono fun r l3 h3 => ⟨h3.1, ?_⟩
      have h4 := h3.2
      rw [cntL_app] at h4
      omega
    ·split
     ·exact Good.ret hw2 ⟨hks.app h2.1, by rw [cntL_app]; omega⟩
     ·exact Good.bad _ hw2
  case stmt =>
   intro d l hw h
   unfold SP.stmt
   split
   ·rename_i h1
    refine Good.top hw fun t l' e hh => ?_
    have h3 := tl_lt hw (by rw [h1]; decide)
    refine (T.expr d _ hw.tl (by omega)).bind fun n l2 hw2 h2 => Good.ret hw2 ⟨Nice.plain (by decide) (by decide) (by decide) ⟨h2.1, trivial⟩, ?_⟩
    have := h2.2
    simp only [cnt, cntL]
    omega
   ·refine (T.expr d l hw (by omega)).bind fun n l2 hw2 h2 => Good.ret hw2 ⟨h2.1, ?_⟩
    have := h2.2
    simp only
    omega
theorem unit_tot {l : List Tk} (hw : WF P l) : Good P (fun n l2 => Nice P n ∧ cnt n + l2.length ≤ l.length + 1) (unit (16 * l.length + 12) false l) := by
 unfold SP.unit
 refine (show Good P (fun ta l2 => l2 = l ∧ ta = (E, [])) _ from Good.ret hw ⟨rfl, rfl⟩).bind fun ta l2 hw2 h2 => ?_
 obtain ⟨rfl, rfl⟩ := h2
 refine ((tot _).body 0 0 l2 [] hw2 (Nat.le_refl _)).bind fun nk l3 hw3 h3 => Good.ret hw3 ⟨Nice.plain (by decide) (by decide) (by decide) h3.1, ?_⟩
 have := h3.2
 simp only [cnt]
 omega
end
end SP
end Go.Proofs.Ytpodpmjlkbbkoaa.P
