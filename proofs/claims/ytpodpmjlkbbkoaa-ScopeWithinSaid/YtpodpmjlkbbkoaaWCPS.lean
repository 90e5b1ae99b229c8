import Derived.Test.YtpodpmjlkbbkoaaWCTA
set_option linter.all false
namespace Go.Proofs.Ytpodpmjlkbbkoaa.P
namespace SP
mutual
def cnt : Nd → Nat
 | .mk _ _ _ _ _ ks => 1 + cntL ks
def cntL : List Nd → Nat
 | [] => 0
 | k :: ks => cnt k + cntL ks
end
theorem cnt_eq (x : Nd) : cnt x = 1 + cntL x.kids := by
 cases x
 simp only [cnt, Nd.kids]
theorem cnt_mem {y : Nd} : ∀ {l : List Nd}, y ∈ l → cnt y ≤ cntL l
 | k :: ks, h => by
  simp only [cntL]
  rcases List.mem_cons.1 h with rfl | h
  ·omega
  ·have := cnt_mem h; omega
theorem len_cnt : ∀ l : List Nd, l.length ≤ cntL l
 | [] => by simp [cntL]
 | k :: ks => by
  have h1 := len_cnt ks
  have h2 := cnt_eq k
  simp only [cntL, List.length_cons]
  omega
mutual
theorem part_len (slots : List ByteArray) : ∀ (x : Nd) (fs : List Fr) (rcv : Bool) (acc acc2 : List Use), part slots fs rcv acc x = .ok acc2 → acc2.length ≤ acc.length + cnt x
 | .mk kind text place n names kids, fs, rcv, acc, acc2, h => by
  simp only [part] at h
  simp only [cnt]
  split at h
  ·split at h
   ·cases h
   ·have h := Except.ok.inj h
    subst h
    simp only [List.length_append, List.length_cons, List.length_nil]
    omega
  ·split at h
   ·split at h
    ·cases h
    ·have := parts_len slots kids _ _ _ _ h
     simp only [List.length_append, List.length_cons, List.length_nil] at this
     omega
   ·split at h
    ·split at h
     ·have := parts_len slots kids _ _ _ _ h
      omega
     ·cases h
    ·have := parts_len slots kids _ _ _ _ h
     omega
theorem parts_len (slots : List ByteArray) : ∀ (l : List Nd) (fs : List Fr) (first : Bool) (acc acc2 : List Use), parts slots fs first acc l = .ok acc2 → acc2.length ≤ acc.length + cntL l
 | [], fs, first, acc, acc2, h => by
  simp only [parts] at h
  have h := Except.ok.inj h
  subst h
  simp only [cntL]
  omega
 | k :: ks, fs, first, acc, acc2, h => by
  simp only [parts] at h
  simp only [cntL]
  cases hp : part slots fs first acc k with
  | error e => rw [hp] at h; cases h
  | ok a =>
   rw [hp] at h
   have h1 := part_len slots k _ _ _ _ hp
   have h2 := parts_len slots ks _ _ _ _ h
   omega
end
end SP
end Go.Proofs.Ytpodpmjlkbbkoaa.P
namespace Go.Proofs.Ytpodpmjlkbbkoaa.P
namespace SP
section
variable {P : ByteArray → Int → Prop}
def WF (P : ByteArray → Int → Prop) : List Tk → Prop
 | [] => False
 | t :: l => (t.f0 = 1 → P t.f1 t.f2) ∧ (t.f0 = 0 ∨ WF P l)
mutual
def Nice (P : ByteArray → Int → Prop) : Nd → Prop
 | .mk kind text place _ _ kids => (kind = 5 ∨ kind = 6 → P text place) ∧ (kind = 7 → kids ≠ []) ∧ NiceL P kids
def NiceL (P : ByteArray → Int → Prop) : List Nd → Prop
 | [] => True
 | k :: ks => Nice P k ∧ NiceL P ks
end
theorem NiceL.app {n : Nd} : ∀ {l : List Nd}, NiceL P l → Nice P n → NiceL P (l ++ [n])
 | [], _, h => ⟨h, trivial⟩
 | k :: ks, h, hn => ⟨h.1, NiceL.app h.2 hn⟩
theorem Nice.kids {n : Nd} (h : Nice P n) : NiceL P n.kids := by
 cases n
 exact h.2.2
theorem Nice.seven {n : Nd} (h : Nice P n) : n.kind = 7 → n.kids ≠ [] := by
 cases n
 exact h.2.1
theorem Nice.plain {k : Int} {t : ByteArray} {p n : Int} {ns : List ByteArray} {ks : List Nd} (h5 : k ≠ 5) (h6 : k ≠ 6) (h7 : k ≠ 7) (h : NiceL P ks) : Nice P (.mk k t p n ns ks) := ⟨fun e => (e.elim h5 h6).elim, fun e => (h7 e).elim, h⟩
theorem cntL_app {n : Nd} : ∀ {l : List Nd}, cntL (l ++ [n]) = cntL l + cnt n
 | [] => by simp [cntL]
 | k :: ks => by
  have := @cntL_app n ks
  simp only [List.cons_append, cntL]
  omega
theorem cnt_pos (n : Nd) : 1 ≤ cnt n := by rw [cnt_eq]; omega
theorem WF.tl : ∀ {l : List Tk}, WF P l → WF P (tl l)
 | t :: l, h => by
  show WF P (if t.f0 = 0 then t :: l else l)
  split
  ·exact h
  ·rename_i h0
   exact h.2.resolve_left h0
theorem tl_le : ∀ l : List Tk, (tl l).length ≤ l.length
 | [] => by simp [tl]
 | t :: l => by
  show (if t.f0 = 0 then t :: l else l).length ≤ _
  split
  ·exact Nat.le_refl _
  ·simp
theorem tl_lt : ∀ {l : List Tk}, WF P l → hk l ≠ 0 → (tl l).length + 1 = l.length
 | t :: l, _, h => by
  show (if t.f0 = 0 then t :: l else l).length + 1 = _
  rw [if_neg (show ¬ t.f0 = 0 from h)]
  simp
def Good (P : ByteArray → Int → Prop) {α : Type} (R : α → List Tk → Prop) (x : PR α) : Prop := ∃ r, x = some r ∧ (∀ e, r = .error e → e.2 ≠ 0) ∧ ∀ a l2, r = .ok (a, l2) → WF P l2 ∧ R a l2
theorem Good.ret {α : Type} {R : α → List Tk → Prop} {a : α} {l : List Tk} (hw : WF P l) (h : R a l) : Good P R (ret a l) := ⟨_, rfl, fun e h => (by cases h), fun a2 l2 e => by
 have e := Except.ok.inj e
 simp only [Prod.mk.injEq] at e
 obtain ⟨rfl, rfl⟩ := e
 exact ⟨hw, h⟩⟩
theorem Good.bad {α : Type} {R : α → List Tk → Prop} {l : List Tk} (why : Int) (hw : WF P l) (h0 : why ≠ 0 := by decide) : Good P R (bad l why) := by
 cases l with
 | nil => exact hw.elim
 | cons t l => exact ⟨_, rfl, fun e h => (by cases Except.error.inj h; exact h0), fun a2 l2 e => (by cases e)⟩
theorem Good.bind {α β : Type} {R : α → List Tk → Prop} {S : β → List Tk → Prop} {x : PR α} {f : α → List Tk → PR β} (hx : Good P R x) (hf : ∀ a l2, WF P l2 → R a l2 → Good P S (f a l2)) : Good P S (bind x f) := by
 obtain ⟨r, rfl, h0, h⟩ := hx
 cases r with
 | error e => exact ⟨_, rfl, fun e2 h2 => (by cases Except.error.inj h2; exact h0 _ rfl), fun a2 l2 e => (by cases e)⟩
 | ok y =>
  obtain ⟨h1, h2⟩ := h y.1 y.2 rfl
  exact hf y.1 y.2 h1 h2
theorem Good.top {α : Type} {R : α → List Tk → Prop} {l : List Tk} {f : Tk → PR α} (hw : WF P l) (h : ∀ t l', l = t :: l' → hk l = t.f0 → Good P R (f t)) : Good P R (top l f) := by
 cases l with
 | nil => exact hw.elim
 | cons t l => exact h t l rfl rfl
theorem Good.need {l : List Tk} (k : Int) (hk0 : k ≠ 0) (hw : WF P l) : Good P (fun t l2 => l2.length + 1 = l.length ∧ t.f0 = k ∧ (k = 1 → P t.f1 t.f2)) (need k l) := by
 refine Good.top hw fun t l' e hh => ?_
 split
 ·rename_i h
  refine Good.ret hw.tl ⟨tl_lt hw (by rw [hh, h]; exact hk0), h, fun h1 => ?_⟩
  subst e
  exact hw.1 (h.trans h1)
 ·exact Good.bad _ hw
theorem Good.within {α : Type} {R : α → List Tk → Prop} {l : List Tk} {f : Int → List Tk → PR α} (d : Int) (hw : WF P l) (h0 : hk l ≠ 0) (h : ∀ l2, WF P l2 → l2.length + 1 = l.length → Good P R (f (d + 1) l2)) : Good P R (within d l f) := by
 unfold SP.within
 split
 ·exact Good.bad _ hw
 ·exact h _ hw.tl (tl_lt hw h0)
theorem Good.mono {α : Type} {R S : α → List Tk → Prop} {x : PR α} (hx : Good P R x) (h : ∀ a l2, R a l2 → S a l2) : Good P S x := by
 obtain ⟨r, e, h0, hr⟩ := hx
 exact ⟨r, e, h0, fun a l2 e => ⟨(hr a l2 e).1, h _ _ (hr a l2 e).2⟩⟩
theorem namesWhile_wf : ∀ (l : List Tk) (acc : List ByteArray), WF P l → WF P (namesWhile l acc).2 ∧ (namesWhile l acc).2.length ≤ l.length
 | t :: l, acc, h => by
  unfold namesWhile
  split
  ·rename_i h1
   have := namesWhile_wf l (acc ++ [t.f1]) (h.2.resolve_left (by omega))
   exact ⟨this.1, Nat.le_trans this.2 (by simp)⟩
  ·exact ⟨h, Nat.le_refl _⟩
theorem Good.temps {l : List Tk} (ns : List ByteArray) (hw : WF P l) : Good P (fun _ l2 => l2.length ≤ l.length) (temps ns l) := by
 unfold SP.temps
 split
 ·rename_i h
  have h1 := namesWhile_wf (SP.tl l) ns hw.tl
  have h2 := tl_le l
  exact (Good.need 12 (by decide) h1.1).bind fun t l2 hw2 h3 => Good.ret hw2 (by have := h3.1; omega)
 ·exact Good.ret hw (Nat.le_refl _)
theorem Good.args : ∀ (k : Nat) (l : List Tk) (ns : List ByteArray), WF P l → l.length + 1 ≤ k → Good P (fun _ l2 => l2.length ≤ l.length) (args k l ns)
 | 0, l, ns, hw, h => by omega
 | k + 1, l, ns, hw, h => by
  unfold SP.args
  refine Good.top hw fun u l' e hh => ?_
  split
  ·rename_i h1
   have h3 := tl_lt hw (by rw [hh, h1]; decide)
   refine (Good.need 1 (by decide) hw.tl).bind fun t l2 hw2 h2 => ?_
   refine (Good.args k l2 _ hw2 (by have := h2.1; omega)).mono fun a l3 h4 => ?_
   have := h2.1
   omega
  ·exact Good.ret hw (Nat.le_refl _)
abbrev RN (P : ByteArray → Int → Prop) (l : List Tk) (n : Nd) (l2 : List Tk) : Prop := Nice P n ∧ cnt n + l2.length ≤ l.length
abbrev RP (P : ByteArray → Int → Prop) (m : Nat) (l : List Tk) (n : Nd × Bool) (l2 : List Tk) : Prop := Nice P n.1 ∧ cnt n.1 + l2.length ≤ m + l.length
structure Tot (P : ByteArray → Int → Prop) (k : Nat) : Prop where
 expr : ∀ d l, WF P l → 16 * l.length + 9 ≤ k → Good P (RN P l) (expr k d l)
 casc : ∀ d l, WF P l → 16 * l.length + 8 ≤ k → Good P (RN P l) (casc k d l)
 cascs : ∀ d l ks, WF P l → NiceL P ks → 16 * l.length + 1 ≤ k → Good P (fun r l2 => NiceL P r ∧ cntL r + l2.length + (if hk l = 15 then 1 else 0) ≤ cntL ks + l.length) (cascs k d l ks)
 msg : ∀ d l, WF P l → 16 * l.length + 2 ≤ k → Good P (RN P l) (msg k d l)
 keys : ∀ d l tx ks, WF P l → NiceL P ks → 16 * l.length + 1 ≤ k → Good P (fun r l2 => NiceL P r.2 ∧ cntL r.2 + l2.length + (if hk l = 2 then 1 else 0) ≤ cntL ks + l.length) (keys k d l tx ks)
 sent : ∀ d n l, WF P l → Nice P n → 16 * l.length + 3 ≤ k → Good P (fun m l2 => Nice P m ∧ cnt m + l2.length ≤ cnt n + l.length ∧ l2.length + 1 ≤ l.length) (sent k d n l)
 keyed : ∀ d l, WF P l → 16 * l.length + 7 ≤ k → Good P (RP P 0 l) (keyed k d l)
 binary : ∀ d l, WF P l → 16 * l.length + 6 ≤ k → Good P (RP P 0 l) (binary k d l)
 unary : ∀ d l, WF P l → 16 * l.length + 5 ≤ k → Good P (RP P 0 l) (unary k d l)
 chain : ∀ d kd np l, WF P l → Nice P np.1 → 16 * l.length + 4 ≤ k → Good P (RP P (cnt np.1) l) (chain k d kd np l)
 prim : ∀ d l, WF P l → 16 * l.length + 2 ≤ k → Good P (RP P 0 l) (prim k d l)
 list : ∀ d l, WF P l → hk l ≠ 0 → 16 * l.length + 1 ≤ k → Good P (RN P l) (list k d l)
 elems : ∀ d l ks, WF P l → NiceL P ks → 16 * l.length + 3 ≤ k → Good P (fun r l2 => NiceL P r ∧ cntL r + l2.length ≤ cntL ks + l.length) (elems k d l ks)
 elem : ∀ d l, WF P l → 16 * l.length + 2 ≤ k → Good P (RN P l) (elem k d l)
 block : ∀ d l, WF P l → hk l ≠ 0 → 16 * l.length + 1 ≤ k → Good P (RN P l) (block k d l)
 body : ∀ d e l ns, WF P l → 16 * l.length + 12 ≤ k → Good P (fun r l2 => NiceL P r.2 ∧ cntL r.2 + l2.length ≤ l.length) (body k d e l ns)
 stmts : ∀ d e l ks, WF P l → NiceL P ks → 16 * l.length + 11 ≤ k → Good P (fun r l2 => NiceL P r ∧ cntL r + l2.length ≤ cntL ks + l.length) (stmts k d e l ks)
 stmt : ∀ d l, WF P l → 16 * l.length + 10 ≤ k → Good P (RP P 0 l) (stmt k d l)
theorem tot : ∀ k, Tot P k
 | 0 => by constructor <;> intros <;> omega
 | k + 1 => by
  have T : Tot P k := tot k
  constructor
  case expr =>
   intro d l hw h
   unfold SP.expr
   refine Good.top hw fun t l' e hh => ?_
   split
   ·rename_i h1
    subst e
    have hw1 := hw.2.resolve_left (by omega)
    cases l' with
    | nil => exact hw1.elim
    | cons u r =>
     simp only [List.drop_succ_cons, List.drop_zero]
     split
     ·rename_i h7
      simp only [List.length_cons] at h
      refine Good.within d hw1 (by show u.f0 ≠ 0; omega) fun l2 hw2 hl2 => ?_
      simp only [List.length_cons] at hl2
      refine (T.expr (d + 1) l2 hw2 (by omega)).bind fun a l3 hw3 h3 => ?_
      refine Good.ret hw3 ⟨⟨fun _ => hw.1 h1, fun e => absurd e (by decide), h3.1, trivial⟩, ?_⟩
      have := h3.2
      simp only [cnt, cntL, List.length_cons]
      omega
     ·exact T.casc d _ hw (by omega)
   ·exact T.casc d l hw (by omega)
  case casc =>
   intro d l hw h
   unfold SP.casc
   refine (T.keyed d l hw (by omega)).bind fun np l2 hw2 h2 => ?_
   obtain ⟨hn, hc⟩ := h2
   refine Good.top hw2 fun u l' e hh => ?_
   split
   ·rename_i h15
    split
    ·rename_i h7
     have hk7 := hn.seven h7.1
     have hkn := hn.kids
     have hce := cnt_eq np.1
     cases hks : np.1.kids with
     | nil => exact (hk7 hks).elim
     | cons rcv r =>
      rw [hks] at hkn hce
      simp only [cntL] at hce
      refine (T.cascs d l2 _ hw2 (show NiceL P [rcv, .mk 9 np.1.text np.1.place 0 [] r] from ⟨hkn.1, Nice.plain (by decide) (by decide) (by decide) hkn.2, trivial⟩) (by omega)).bind fun ks l3 hw3 h3 => ?_
      refine Good.ret hw3 ⟨Nice.plain (by decide) (by decide) (by decide) h3.1, ?_⟩
      have h4 := h3.2
      rw [if_pos (by rw [hh, h15])] at h4
      simp only [cnt, cntL] at h4 ⊢
      omega
    ·exact Good.bad _ hw2
   ·exact Good.ret hw2 ⟨hn, by omega⟩
  case cascs =>
   intro d l ks hw hks h
   unfold SP.cascs
   refine Good.top hw fun u l' e hh => ?_
   by_cases h15 : u.f0 = 15
   ·rw [if_pos h15]
    have h3 := tl_lt hw (by rw [hh, h15]; decide)
    rw [if_pos (by rw [hh, h15])]
    refine (T.msg d _ hw.tl (by omega)).bind fun m l2 hw2 h2 => ?_
    have hp := cnt_pos m
    have := h2.2
    refine (T.cascs d l2 _ hw2 (hks.app h2.1) (by omega)).mono fun r l4 h4 => ⟨h4.1, ?_⟩
    have h5 := h4.2
    rw [cntL_app] at h5
    split at h5 <;> omega
   ·rw [if_neg h15]
    rw [if_neg (by rw [hh]; exact h15)]
    exact Good.ret hw ⟨hks, by omega⟩
  case msg =>
   intro d l hw h
   unfold SP.msg
   refine Good.top hw fun t l' e hh => ?_
   split
   ·rename_i h1
    have h3 := tl_lt hw (by rw [hh, h1]; decide)
    exact Good.ret hw.tl ⟨Nice.plain (by decide) (by decide) (by decide) trivial, by simp only [cnt, cntL]; omega⟩
   split
   ·rename_i h1
    have h3 := tl_lt hw (by rw [hh, h1]; decide)
    refine (T.unary d _ hw.tl (by omega)).bind fun np l2 hw2 h2 => ?_
    refine Good.ret hw2 ⟨Nice.plain (by decide) (by decide) (by decide) ⟨h2.1, trivial⟩, ?_⟩
    have := h2.2
    simp only [cnt, cntL]
    omega
   split
   ·rename_i h1
    refine (T.keys d l E [] hw trivial (by omega)).bind fun tk l2 hw2 h2 => ?_
    refine Good.ret hw2 ⟨Nice.plain (by decide) (by decide) (by decide) h2.1, ?_⟩
    have h4 := h2.2
    rw [if_pos (by rw [hh, h1])] at h4
    simp only [cnt, cntL] at h4 ⊢
    omega
   ·exact Good.bad _ hw
  case keys =>
   intro d l tx ks hw hks h
   unfold SP.keys
   refine Good.top hw fun t l' e hh => ?_
   by_cases h15 : t.f0 = 2
   ·rw [if_pos h15]
    have h3 := tl_lt hw (by rw [hh, h15]; decide)
    rw [if_pos (by rw [hh, h15])]
    refine (T.binary d _ hw.tl (by omega)).bind fun np l2 hw2 h2 => ?_
    have hp := cnt_pos np.1
    have := h2.2
    refine (T.keys d l2 _ _ hw2 (hks.app h2.1) (by omega)).mono fun r l4 h4 => ⟨h4.1, ?_⟩
    have h5 := h4.2
    rw [cntL_app] at h5
    split at h5 <;> omega
   ·rw [if_neg h15]
    rw [if_neg (by rw [hh]; exact h15)]
    exact Good.ret hw ⟨hks, by simp only; omega⟩
  case sent =>
   intro d n l hw hn h
   unfold SP.sent
   refine (T.msg d l hw (by omega)).bind fun m l2 hw2 h2 => ?_
   have hce := cnt_eq m
   have := h2.2
   exact Good.ret hw2 ⟨⟨fun e => by omega, fun _ => by simp, hn, h2.1.kids⟩, by simp only [cnt, cntL]; omega, by omega⟩
  case keyed =>
   intro d l hw h
   unfold SP.keyed
   refine (T.binary d l hw (by omega)).bind fun np l2 hw2 h2 => ?_
   have := h2.2
   refine Good.top hw2 fun u l' e hh => ?_
   split
   ·refine (T.sent d np.1 l2 hw2 h2.1 (by omega)).bind fun m l3 hw3 h3 => Good.ret hw3 ⟨h3.1, ?_⟩
    have := h3.2.1
    simp only
    omega
   ·exact Good.ret hw2 h2
  case binary =>
   intro d l hw h
   unfold SP.binary
   refine (T.unary d l hw (by omega)).bind fun np l2 hw2 h2 => ?_
   have := h2.2
   refine (T.chain d 3 np l2 hw2 h2.1 (by omega)).mono fun a l3 h3 => ⟨h3.1, ?_⟩
   have := h3.2
   omega
  case unary =>
   intro d l hw h
   unfold SP.unary
   refine (T.prim d l hw (by omega)).bind fun np l2 hw2 h2 => ?_
   have := h2.2
   refine (T.chain d 1 np l2 hw2 h2.1 (by omega)).mono fun a l3 h3 => ⟨h3.1, ?_⟩
   have := h3.2
   omega
  case chain =>
   intro d kd np l hw hn h
   unfold SP.chain
   refine Good.top hw fun u l' e hh => ?_
   split
   ·refine (T.sent d np.1 l hw hn (by omega)).bind fun m l2 hw2 h2 => ?_
    have h3 := h2.2.1
    have h4 := h2.2.2
    refine (T.chain d kd (m, true) l2 hw2 h2.1 (by omega)).mono fun a l3 h5 => ⟨h5.1, ?_⟩
    have := h5.2
    simp only at this
    omega
   ·exact Good.ret hw ⟨hn, by omega⟩
  case prim =>
   intro d l hw h
   unfold SP.prim
   refine Good.top hw fun t l' e hh => ?_
   split
   ·rename_i h1
    have h3 := tl_lt hw (by rw [hh, h1]; decide)
    subst e
    exact Good.ret hw.tl ⟨⟨fun _ => hw.1 h1, fun e => absurd e (by decide), trivial⟩, by simp only [cnt, cntL]; omega⟩
   split
   ·rename_i h1
    have h3 := tl_lt hw (by rw [hh, h1]; decide)
    exact Good.ret hw.tl ⟨Nice.plain (by decide) (by decide) (by decide) trivial, by simp only [cnt, cntL]; omega⟩
   split
   ·rename_i h1
    have h3 := tl_lt hw (by rw [hh, h1]; decide)
    exact Good.ret hw.tl ⟨Nice.plain (by decide) (by decide) (by decide) trivial, by simp only [cnt, cntL]; omega⟩
   split
   ·rename_i h1
    have h3 := tl_lt hw (by rw [hh, h1]; decide)
    exact Good.ret hw.tl ⟨Nice.plain (by decide) (by decide) (by decide) trivial, by simp only [cnt, cntL]; omega⟩
   split
   ·rename_i h1
    refine (T.list d l hw (by rw [hh, h1]; decide) (by omega)).bind fun n l2 hw2 h2 => Good.ret hw2 ⟨h2.1, ?_⟩
    have := h2.2
    simp only
    omega
   split
   ·rename_i h1
    refine (T.block d l hw (by rw [hh, h1]; decide) (by omega)).bind fun n l2 hw2 h2 => Good.ret hw2 ⟨h2.1, ?_⟩
    have := h2.2
    simp only
    omega
   split
   ·rename_i h1
    refine Good.within d hw (by rw [hh, h1]; decide) fun l2 hw2 hl2 => ?_
    refine (T.expr (d + 1) l2 hw2 (by omega)).bind fun n l3 hw3 h3 => ?_
    refine (Good.need 9 (by decide) hw3).bind fun _ l4 hw4 h4 => Good.ret hw4 ⟨h3.1, ?_⟩
    have := h3.2
    have := h4.1
    simp only
    omega
   ·exact Good.bad _ hw
  case list =>
   intro d l hw h0 h
   unfold SP.list
   refine Good.top hw fun t l' e hh => ?_
   refine Good.within d hw h0 fun l2 hw2 hl2 => ?_
   refine (T.elems (d + 1) l2 [] hw2 trivial (by omega)).bind fun ks l3 hw3 h3 => ?_
   refine Good.ret hw3.tl ⟨Nice.plain (by decide) (by decide) (by decide) h3.1, ?_⟩
   have h4 := h3.2
   have := tl_le l3
   simp only [cnt, cntL] at h4 ⊢
   omega
  case elems =>
   intro d l ks hw hks h
   unfold SP.elems
   split
   ·exact Good.ret hw ⟨hks, Nat.le_refl _⟩
   ·refine (T.elem d l hw (by omega)).bind fun n l2 hw2 h2 => ?_
    have hp := cnt_pos n
    have := h2.2
    refine (T.elems d l2 _ hw2 (hks.app h2.1) (by omega)).mono fun r l3 h3 => ⟨h3.1, ?_⟩
    have h4 := h3.2
    rw [cntL_app] at h4
    omega
  case elem =>
   intro d l hw h
   unfold SP.elem
   refine Good.top hw fun t l' e hh => ?_
   split
   ·rename_i h1
    exact T.list d l hw (by rw [hh]; omega) (by omega)
   split
   ·rename_i h1
    have h3 := tl_lt hw (by rw [hh, h1]; decide)
    exact Good.ret hw.tl ⟨Nice.plain (by decide) (by decide) (by decide) trivial, by simp only [cnt, cntL]; omega⟩
   split
   ·rename_i h1
    have h3 := tl_lt hw (by rw [hh, h1]; decide)
    exact Good.ret hw.tl ⟨Nice.plain (by decide) (by decide) (by decide) trivial, by simp only [cnt, cntL]; omega⟩
   split
   ·rename_i h1
    have h3 := tl_lt hw (by rw [hh, h1]; decide)
    refine Good.ret hw.tl ⟨Nice.plain ?_ ?_ ?_ trivial, by simp only [cnt, cntL]; omega⟩ <;> (split <;> decide)
   split
   ·rename_i h1
    have h3 := tl_lt hw (by rw [hh]; omega)
    exact Good.ret hw.tl ⟨Nice.plain (by decide) (by decide) (by decide) trivial, by simp only [cnt, cntL]; omega⟩
   ·exact Good.bad _ hw
  case block =>
   intro d l hw h0 h
   unfold SP.block
   refine Good.top hw fun t l' e hh => ?_
   refine Good.within d hw h0 fun l2 hw2 hl2 => ?_
   refine (Good.args k l2 [] hw2 (by omega)).bind fun ns l3 hw3 h3 => ?_
   have hlen : ∀ (x : PR Unit), (x = SP.bind (need 12 l3) (fun _ l4 => SP.ret () l4) ∨ x = SP.ret () l3) → Good P (fun _ l4 => l4.length ≤ l3.length) x := by
    rintro x (rfl | rfl)
    ·exact (Good.need 12 (by decide) hw3).bind fun _ l4 hw4 h4 => Good.ret hw4 (by have := h4.1; omega)
    ·exact Good.ret hw3 (Nat.le_refl _)
   refine (hlen _ (by split; exact Or.inl rfl; exact Or.inr rfl)).bind fun _ l4 hw4 h4 => ?_
   refine (T.body (d + 1) 11 l4 ns hw4 (by omega)).bind fun nk l5 hw5 h5 => ?_
   refine Good.ret hw5.tl ⟨Nice.plain (by decide) (by decide) (by decide) h5.1, ?_⟩
   have := h5.2
   have := tl_le l5
   simp only [cnt]
   omega
  case body =>
   intro d e l ns hw h
   unfold SP.body
   refine (Good.temps ns hw).bind fun ns2 l2 hw2 h2 => ?_
   refine (T.stmts d e l2 [] hw2 trivial (by omega)).bind fun ks l3 hw3 h3 => Good.ret hw3 ⟨h3.1, ?_⟩
   have h4 := h3.2
   simp only [cntL] at h4
   simp only
   omega
  case stmts =>
   intro d e l ks hw hks h
   unfold SP.stmts
   split
   ·exact Good.ret hw ⟨hks, Nat.le_refl _⟩
   ·refine (T.stmt d l hw (by omega)).bind fun nl l2 hw2 h2 => ?_
    have hp := cnt_pos nl.1
    have h5 := h2.2
    have h6 := tl_le l2
    split
    ·split
     ·split
      ·exact Good.ret hw2.tl ⟨hks.app h2.1, by rw [cntL_app]; omega⟩
      ·exact Good.bad _ hw2.tl
     ·refine (T.stmts d e (SP.tl l2) _ hw2.tl (hks.app h2.1) (by omega)).mono fun r l3 h3 => ⟨h3.1, ?_⟩
      have h4 := h3.2
      rw [cntL_app] at h4
      omega
    ·split
     ·exact Good.ret hw2 ⟨hks.app h2.1, by rw [cntL_app]; omega⟩
     ·exact Good.bad _ hw2
  case stmt =>
   intro d l hw h
   unfold SP.stmt
   split
   ·rename_i h1
    refine Good.top hw fun t l' e hh => ?_
    have h3 := tl_lt hw (by rw [h1]; decide)
    refine (T.expr d _ hw.tl (by omega)).bind fun n l2 hw2 h2 => Good.ret hw2 ⟨Nice.plain (by decide) (by decide) (by decide) ⟨h2.1, trivial⟩, ?_⟩
    have := h2.2
    simp only [cnt, cntL]
    omega
   ·refine (T.expr d l hw (by omega)).bind fun n l2 hw2 h2 => Good.ret hw2 ⟨h2.1, ?_⟩
    have := h2.2
    simp only
    omega
theorem unit_tot {l : List Tk} (hw : WF P l) : Good P (fun n l2 => Nice P n ∧ cnt n + l2.length ≤ l.length + 1) (unit (16 * l.length + 12) false l) := by
 unfold SP.unit
 refine (show Good P (fun ta l2 => l2 = l ∧ ta = (E, [])) _ from Good.ret hw ⟨rfl, rfl⟩).bind fun ta l2 hw2 h2 => ?_
 obtain ⟨rfl, rfl⟩ := h2
 refine ((tot _).body 0 0 l2 [] hw2 (Nat.le_refl _)).bind fun nk l3 hw3 h3 => Good.ret hw3 ⟨Nice.plain (by decide) (by decide) (by decide) h3.1, ?_⟩
 have := h3.2
 simp only [cnt]
 omega
end
end SP
end Go.Proofs.Ytpodpmjlkbbkoaa.P
namespace Go.Proofs.Ytpodpmjlkbbkoaa.P
namespace SP
def LeP {α : Type} (x y : PR α) : Prop := ∀ r, x = some r → y = some r
theorem LeP.refl {α : Type} (x : PR α) : LeP x x := fun _ h => h
theorem LeP.none {α : Type} (y : PR α) : LeP (none : PR α) y := fun r h => by cases h
theorem LeP.bind {α β : Type} {x y : PR α} {f g : α → List Tk → PR β} (h : LeP x y) (k : ∀ a l, LeP (f a l) (g a l)) : LeP (bind x f) (bind y g) := by
 intro r hr
 cases x with
 | none => cases hr
 | some z =>
  rw [h z rfl]
  cases z with
  | error e => exact hr
  | ok p => exact k p.1 p.2 r hr
theorem LeP.ite {α : Type} {c : Prop} [Decidable c] {x y x' y' : PR α} (h : LeP x x') (k : LeP y y') : LeP (if c then x else y) (if c then x' else y') := by
 split
 ·exact h
 ·exact k
theorem LeP.top {α : Type} {l : List Tk} {f g : Tk → PR α} (h : ∀ t, LeP (f t) (g t)) : LeP (top l f) (top l g) := by
 cases l with
 | nil => exact LeP.refl _
 | cons t l => exact h t
theorem LeP.within {α : Type} {d : Int} {l : List Tk} {f g : Int → List Tk → PR α} (h : ∀ d l, LeP (f d l) (g d l)) : LeP (within d l f) (within d l g) := by
 unfold SP.within
 split
 ·exact LeP.refl _
 ·exact h _ _
theorem args_mono : ∀ (k : Nat) (l : List Tk) (ns : List ByteArray), LeP (args k l ns) (args (k + 1) l ns)
 | 0, l, ns => LeP.none _
 | k + 1, l, ns => by
  unfold SP.args
  exact LeP.top fun u => LeP.ite (LeP.bind (LeP.refl _) fun t l2 => args_mono k l2 _) (LeP.refl _)
structure Mon (k : Nat) : Prop where
 expr : ∀ d l, LeP (expr k d l) (expr (k + 1) d l)
 casc : ∀ d l, LeP (casc k d l) (casc (k + 1) d l)
 cascs : ∀ d l ks, LeP (cascs k d l ks) (cascs (k + 1) d l ks)
 msg : ∀ d l, LeP (msg k d l) (msg (k + 1) d l)
 keys : ∀ d l tx ks, LeP (keys k d l tx ks) (keys (k + 1) d l tx ks)
 sent : ∀ d n l, LeP (sent k d n l) (sent (k + 1) d n l)
 keyed : ∀ d l, LeP (keyed k d l) (keyed (k + 1) d l)
 binary : ∀ d l, LeP (binary k d l) (binary (k + 1) d l)
 unary : ∀ d l, LeP (unary k d l) (unary (k + 1) d l)
 chain : ∀ d kd np l, LeP (chain k d kd np l) (chain (k + 1) d kd np l)
 prim : ∀ d l, LeP (prim k d l) (prim (k + 1) d l)
 list : ∀ d l, LeP (list k d l) (list (k + 1) d l)
 elems : ∀ d l ks, LeP (elems k d l ks) (elems (k + 1) d l ks)
 elem : ∀ d l, LeP (elem k d l) (elem (k + 1) d l)
 block : ∀ d l, LeP (block k d l) (block (k + 1) d l)
 body : ∀ d e l ns, LeP (body k d e l ns) (body (k + 1) d e l ns)
 stmts : ∀ d e l ks, LeP (stmts k d e l ks) (stmts (k + 1) d e l ks)
 stmt : ∀ d l, LeP (stmt k d l) (stmt (k + 1) d l)
theorem mon : ∀ k, Mon k
 | 0 => by constructor <;> intros <;> exact LeP.none _
 | k + 1 => by
  have M : Mon k := mon k
  constructor
  case expr =>
   intro d l
   unfold SP.expr
   refine LeP.top fun t => LeP.ite ?_ (M.casc _ _)
   cases l.drop 1 with
   | nil => exact LeP.refl _
   | cons u r => exact LeP.ite (LeP.within fun d l => LeP.bind (M.expr _ _) fun _ _ => LeP.refl _) (M.casc _ _)
  case casc =>
   intro d l
   unfold SP.casc
   refine LeP.bind (M.keyed _ _) fun np l2 => LeP.top fun u => LeP.ite (LeP.ite ?_ (LeP.refl _)) (LeP.refl _)
   cases np.1.kids with
   | nil => exact LeP.refl _
   | cons rcv r => exact LeP.bind (M.cascs _ _ _) fun _ _ => LeP.refl _
  case cascs =>
   intro d l ks
   unfold SP.cascs
   exact LeP.top fun u => LeP.ite (LeP.bind (M.msg _ _) fun _ _ => M.cascs _ _ _) (LeP.refl _)
  case msg =>
   intro d l
   unfold SP.msg
   exact LeP.top fun t => LeP.ite (LeP.refl _) (LeP.ite (LeP.bind (M.unary _ _) fun _ _ => LeP.refl _) (LeP.ite (LeP.bind (M.keys _ _ _ _) fun _ _ => LeP.refl _) (LeP.refl _)))
  case keys =>
   intro d l tx ks
   unfold SP.keys
   exact LeP.top fun t => LeP.ite (LeP.bind (M.binary _ _) fun _ _ => M.keys _ _ _ _) (LeP.refl _)
  case sent =>
   intro d n l
   unfold SP.sent
   exact LeP.bind (M.msg _ _) fun _ _ => LeP.refl _
  case keyed =>
   intro d l
   unfold SP.keyed
   exact LeP.bind (M.binary _ _) fun np l2 => LeP.top fun u => LeP.ite (LeP.bind (M.sent _ _ _) fun _ _ => LeP.refl _) (LeP.refl _)
  case binary =>
   intro d l
   unfold SP.binary
   exact LeP.bind (M.unary _ _) fun np l2 => M.chain _ _ _ _
  case unary =>
   intro d l
   unfold SP.unary
   exact LeP.bind (M.prim _ _) fun np l2 => M.chain _ _ _ _
  case chain =>
   intro d kd np l
   unfold SP.chain
   exact LeP.top fun u => LeP.ite (LeP.bind (M.sent _ _ _) fun _ _ => M.chain _ _ _ _) (LeP.refl _)
  case prim =>
   intro d l
   unfold SP.prim
   exact LeP.top fun t => LeP.ite (LeP.refl _) (LeP.ite (LeP.refl _) (LeP.ite (LeP.refl _) (LeP.ite (LeP.refl _) (LeP.ite (LeP.bind (M.list _ _) fun _ _ => LeP.refl _) (LeP.ite (LeP.bind (M.block _ _) fun _ _ => LeP.refl _) (LeP.ite (LeP.within fun d l => LeP.bind (M.expr _ _) fun _ _ => LeP.refl _) (LeP.refl _)))))))
  case list =>
   intro d l
   unfold SP.list
   exact LeP.top fun t => LeP.within fun d l => LeP.bind (M.elems _ _ _) fun _ _ => LeP.refl _
  case elems =>
   intro d l ks
   unfold SP.elems
   exact LeP.ite (LeP.refl _) (LeP.bind (M.elem _ _) fun _ _ => M.elems _ _ _)
  case elem =>
   intro d l
   unfold SP.elem
   exact LeP.top fun t => LeP.ite (M.list _ _) (LeP.refl _)
  case block =>
   intro d l
   unfold SP.block
   exact LeP.top fun t => LeP.within fun d l => LeP.bind (args_mono _ _ _) fun ns l3 => LeP.bind (LeP.refl _) fun _ l4 => LeP.bind (M.body _ _ _ _) fun _ _ => LeP.refl _
  case body =>
   intro d e l ns
   unfold SP.body
   exact LeP.bind (LeP.refl _) fun ns2 l2 => LeP.bind (M.stmts _ _ _ _) fun _ _ => LeP.refl _
  case stmts =>
   intro d e l ks
   unfold SP.stmts
   exact LeP.ite (LeP.refl _) (LeP.bind (M.stmt _ _) fun nl l2 => LeP.ite (LeP.ite (LeP.refl _) (M.stmts _ _ _ _)) (LeP.refl _))
  case stmt =>
   intro d l
   unfold SP.stmt
   exact LeP.ite (LeP.top fun t => LeP.bind (M.expr _ _) fun _ _ => LeP.refl _) (LeP.bind (M.expr _ _) fun _ _ => LeP.refl _)
theorem body_mono (d e : Int) (l : List Tk) (ns : List ByteArray) (k : Nat) : ∀ n, LeP (body k d e l ns) (body (k + n) d e l ns)
 | 0 => LeP.refl _
 | n + 1 => fun r h => (mon (k + n)).body d e l ns r (body_mono d e l ns k n r h)
end SP
end Go.Proofs.Ytpodpmjlkbbkoaa.P
namespace Go.Proofs.Ytpodpmjlkbbkoaa.P
namespace SP
def sh (t : Tk) : Tk := ⟨t.f0, t.f1, t.f2 + 1⟩
mutual
def shN : Nd → Nd
 | .mk k t p n ns ks => .mk k t (p + 1) n ns (shL ks)
def shL : List Nd → List Nd
 | [] => []
 | k :: ks => shN k :: shL ks
end
theorem shL_app (n : Nd) : ∀ l : List Nd, shL (l ++ [n]) = shL l ++ [shN n]
 | [] => rfl
 | k :: ks => by
  simp only [List.cons_append, shL]
  rw [shL_app n ks]
theorem shN_kind (n : Nd) : (shN n).kind = n.kind := by cases n; rfl
theorem shN_text (n : Nd) : (shN n).text = n.text := by cases n; rfl
theorem shN_place (n : Nd) : (shN n).place = n.place + 1 := by cases n; rfl
theorem shN_kids (n : Nd) : (shN n).kids = shL n.kids := by cases n; rfl
inductive Co : List Tk → List Tk → Prop
 | fin (e f g : Tk) (he : e.f0 = 0) (hf : f.f0 = 11) (hg : g.f0 = 0) : Co [e] [f, g]
 | cons (t : Tk) (l l' : List Tk) (ht : t.f0 ≠ 0) (h : Co l l') : Co (t :: l) (sh t :: l')
def HT (t t' : Tk) : Prop := (t.f0 ≠ 0 ∧ t' = sh t) ∨ (t.f0 = 0 ∧ t'.f0 = 11)
theorem HT.iff {t t' : Tk} (h : HT t t') {c : Int} (h0 : c ≠ 0) (h11 : c ≠ 11) : t.f0 = c ↔ t'.f0 = c := by
 rcases h with ⟨_, rfl⟩ | ⟨h1, h2⟩
 ·exact Iff.rfl
 ·omega
theorem HT.eq {t t' : Tk} (h : HT t t') (h0 : t.f0 ≠ 0) : t' = sh t := h.elim (fun h => h.2) (fun h => absurd h.1 h0)
theorem Co.hk_iff {l l' : List Tk} (h : Co l l') {c : Int} (h0 : c ≠ 0) (h11 : c ≠ 11) : hk l = c ↔ hk l' = c := by
 cases h with
 | fin e f g he hf hg => simp only [hk]; omega
 | cons t l l' ht h => exact Iff.rfl
theorem Co.tl {l l' : List Tk} (h : Co l l') (h0 : hk l ≠ 0) : Co (tl l) (tl l') := by
 cases h with
 | fin e f g he hf hg => exact absurd he h0
 | cons t l l' ht h =>
  show Co (if t.f0 = 0 then t :: l else l) (if (sh t).f0 = 0 then sh t :: l' else l')
  rw [if_neg ht, if_neg (show ¬ (sh t).f0 = 0 from ht)]
  exact h
theorem Co.ne {l l' : List Tk} (h : Co l l') : ∃ t r, l' = t :: r := by
 cases h with
 | fin e f g he hf hg => exact ⟨_, _, rfl⟩
 | cons t l l' ht h => exact ⟨_, _, rfl⟩
def NoOk {α : Type} (x : PR α) : Prop := ∀ y, x ≠ some (.ok y)
theorem NoOk.bind {α β : Type} {x : PR α} {f : α → List Tk → PR β} (h : NoOk x) : NoOk (bind x f) := by
 intro y hy
 cases x with
 | none => cases hy
 | some z =>
  cases z with
  | error e => cases hy
  | ok p => exact h p rfl
theorem NoOk.bad {α : Type} (l : List Tk) (why : Int) : NoOk (bad l why : PR α) := by
 intro y hy
 cases l with
 | nil => cases hy
 | cons t l => cases hy
theorem NoOk.top {α : Type} {l : List Tk} {f : Tk → PR α} (h : ∀ t r, l = t :: r → NoOk (f t)) : NoOk (top l f) := by
 cases l with
 | nil => intro y hy; cases hy
 | cons t l => exact h t l rfl
def Odd (l : List Tk) : Prop := hk l = 0 ∨ hk l = 11 ∨ hk l = 16
theorem prim_no (k : Nat) (d : Int) (l : List Tk) (h : Odd l) : NoOk (prim k d l) := by
 cases k with
 | zero => intro y hy; simp [prim] at hy
 | succ k =>
  unfold SP.prim
  refine NoOk.top fun t r e => ?_
  subst e
  have h : t.f0 = 0 ∨ t.f0 = 11 ∨ t.f0 = 16 := h
  rw [if_neg (by omega), if_neg (by omega), if_neg (by omega), if_neg (by omega), if_neg (by omega), if_neg (by omega), if_neg (by omega)]
  exact NoOk.bad _ _
theorem unary_no (k : Nat) (d : Int) (l : List Tk) (h : Odd l) : NoOk (unary k d l) := by
 cases k with
 | zero => intro y hy; simp [unary] at hy
 | succ k => unfold SP.unary; exact NoOk.bind (prim_no k d l h)
theorem binary_no (k : Nat) (d : Int) (l : List Tk) (h : Odd l) : NoOk (binary k d l) := by
 cases k with
 | zero => intro y hy; simp [binary] at hy
 | succ k => unfold SP.binary; exact NoOk.bind (unary_no k d l h)
theorem keyed_no (k : Nat) (d : Int) (l : List Tk) (h : Odd l) : NoOk (keyed k d l) := by
 cases k with
 | zero => intro y hy; simp [keyed] at hy
 | succ k => unfold SP.keyed; exact NoOk.bind (binary_no k d l h)
theorem casc_no (k : Nat) (d : Int) (l : List Tk) (h : Odd l) : NoOk (casc k d l) := by
 cases k with
 | zero => intro y hy; simp [casc] at hy
 | succ k => unfold SP.casc; exact NoOk.bind (keyed_no k d l h)
theorem expr_no (k : Nat) (d : Int) (l : List Tk) (h : Odd l) : NoOk (expr k d l) := by
 cases k with
 | zero => intro y hy; simp [expr] at hy
 | succ k =>
  unfold SP.expr
  refine NoOk.top fun t r e => ?_
  have h' : t.f0 = 0 ∨ t.f0 = 11 ∨ t.f0 = 16 := by subst e; exact h
  rw [if_neg (by omega)]
  exact casc_no k d l h
theorem stmt_no (k : Nat) (d : Int) (l : List Tk) (h : Odd l) : NoOk (stmt k d l) := by
 cases k with
 | zero => intro y hy; simp [stmt] at hy
 | succ k =>
  unfold SP.stmt
  rw [if_neg (by unfold Odd at h; omega)]
  exact NoOk.bind (expr_no k d l h)
def Sim {α : Type} (s : α → α) (x x' : PR α) : Prop := ∀ a l2, x = some (.ok (a, l2)) → (∃ e, x' = some (.error e)) ∨ ∃ l2', x' = some (.ok (s a, l2')) ∧ Co l2 l2'
theorem NoOk.sim {α : Type} {s : α → α} {x x' : PR α} (h : NoOk x) : Sim s x x' := fun a l2 e => absurd e (h _)
theorem Sim.bind {α β : Type} {s : α → α} {s2 : β → β} {x x' : PR α} {f f' : α → List Tk → PR β} (h : Sim s x x') (k : ∀ a l l', Co l l' → x = some (.ok (a, l)) → Sim s2 (f a l) (f' (s a) l')) : Sim s2 (bind x f) (bind x' f') := by
 intro b l2 hb
 cases x with
 | none => cases hb
 | some z =>
  cases z with
  | error e => cases hb
  | ok p =>
   rcases h p.1 p.2 rfl with ⟨e, he⟩ | ⟨l', hl, hc⟩
   ·exact Or.inl ⟨e, by rw [he]; rfl⟩
   ·rw [hl]
    exact k p.1 p.2 l' hc rfl b l2 hb
theorem Sim.ret {α : Type} {s : α → α} {a a' : α} {l l' : List Tk} (h : Co l l') (e : a' = s a := by rfl) : Sim s (ret a l) (ret a' l') := by
 intro b l2 hb
 have hb := Except.ok.inj (Option.some.inj hb)
 simp only [Prod.mk.injEq] at hb
 obtain ⟨rfl, rfl⟩ := hb
 exact Or.inr ⟨l', by rw [e]; rfl, h⟩
theorem Sim.ite {α : Type} {s : α → α} {c c' : Prop} [Decidable c] [Decidable c'] {x y x' y' : PR α} (hc : c ↔ c') (h : c → Sim s x x') (k : ¬ c → Sim s y y') : Sim s (if c then x else y) (if c' then x' else y') := by
 by_cases hcc : c
 ·rw [if_pos hcc, if_pos (hc.1 hcc)]
  exact h hcc
 ·rw [if_neg hcc, if_neg (fun h => hcc (hc.2 h))]
  exact k hcc
theorem Sim.top {α : Type} {s : α → α} {l l' : List Tk} {f f' : Tk → PR α} (h : Co l l') (k : ∀ t t', HT t t' → hk l = t.f0 → Sim s (f t) (f' t')) : Sim s (top l f) (top l' f') := by
 cases h with
 | fin e f_ g he hf hg => exact k e f_ (Or.inr ⟨he, hf⟩) rfl
 | cons t l l' ht h => exact k t (sh t) (Or.inl ⟨ht, rfl⟩) rfl
theorem Sim.within {α : Type} {s : α → α} {d : Int} {l l' : List Tk} {f f' : Int → List Tk → PR α} (h : Co l l') (h0 : hk l ≠ 0) (k : ∀ l l', Co l l' → Sim s (f (d + 1) l) (f' (d + 1 + 1) l')) : Sim s (within d l f) (within (d + 1) l' f') := by
 unfold SP.within
 split
 ·exact (NoOk.bad _ _).sim
 ·split
  ·intro a l2 _
   obtain ⟨t, r, rfl⟩ := h.ne
   exact Or.inl ⟨_, rfl⟩
  ·exact k _ _ (h.tl h0)
theorem Sim.need {l l' : List Tk} (h : Co l l') {c : Int} (h0 : c ≠ 0) (h11 : c ≠ 11) : Sim sh (need c l) (need c l') := by
 refine Sim.top h fun t t' ht hh => Sim.ite (ht.iff h0 h11) (fun hc => ?_) (fun _ => (NoOk.bad _ _).sim)
 exact Sim.ret (h.tl (by rw [hh]; omega)) (ht.eq (by omega))
theorem Co.names {l l' : List Tk} (h : Co l l') : ∀ acc, (namesWhile l' acc).1 = (namesWhile l acc).1 ∧ Co (namesWhile l acc).2 (namesWhile l' acc).2 := by
 induction h with
 | fin e f g he hf hg =>
  intro acc
  unfold SP.namesWhile
  rw [if_neg (by omega), if_neg (by omega)]
  exact ⟨rfl, Co.fin e f g he hf hg⟩
 | cons t l l' ht h ih =>
  intro acc
  unfold SP.namesWhile
  by_cases h1 : t.f0 = 1
  ·rw [if_pos h1, if_pos (show (sh t).f0 = 1 from h1)]
   exact ih _
  ·rw [if_neg h1, if_neg (show ¬ (sh t).f0 = 1 from h1)]
   exact ⟨rfl, Co.cons t l l' ht h⟩
theorem Sim.temps {l l' : List Tk} (h : Co l l') (ns : List ByteArray) : Sim id (temps ns l) (temps ns l') := by
 unfold SP.temps
 refine Sim.ite (h.hk_iff (by decide) (by decide)) (fun hc => ?_) (fun _ => Sim.ret h)
 have hn := (h.tl (by rw [hc]; decide)).names ns
 exact (Sim.need hn.2 (by decide) (by decide)).bind fun t l2 l2' hc2 _ => Sim.ret hc2 hn.1
theorem Sim.args : ∀ (k : Nat) (l l' : List Tk) (ns : List ByteArray), Co l l' → Sim id (args k l ns) (args k l' ns)
 | 0, l, l', ns, h => fun a l2 e => by simp [SP.args] at e
 | k + 1, l, l', ns, h => by
  unfold SP.args
  refine Sim.top h fun t t' ht hh => Sim.ite (ht.iff (by decide) (by decide)) (fun hc => ?_) (fun _ => Sim.ret h)
  exact (Sim.need (h.tl (by rw [hh]; omega)) (by decide) (by decide)).bind fun u l2 l2' hc2 _ => Sim.args k l2 l2' _ hc2
theorem ret_ok {α : Type} {a b : α} {l l2 : List Tk} (h : ret a l = some (.ok (b, l2))) : a = b ∧ l = l2 := by
 have h := Except.ok.inj (Option.some.inj h)
 simp only [Prod.mk.injEq] at h
 exact h
theorem bind_ok {α β : Type} {x : PR α} {f : α → List Tk → PR β} {y : β × List Tk} (h : bind x f = some (.ok y)) : ∃ a l, x = some (.ok (a, l)) ∧ f a l = some (.ok y) := by
 cases x with
 | none => cases h
 | some z =>
  cases z with
  | error e => cases h
  | ok p => exact ⟨p.1, p.2, rfl, h⟩
theorem stmts_end : ∀ (k : Nat) (d e : Int) (l : List Tk) (ks r : List Nd) (l2 : List Tk), stmts k d e l ks = some (.ok (r, l2)) → hk l2 = e
 | 0, d, e, l, ks, r, l2, h => by simp [stmts] at h
 | k + 1, d, e, l, ks, r, l2, h => by
  unfold SP.stmts at h
  split at h
  ·rename_i h1
   rw [← (ret_ok h).2]
   exact h1
  ·obtain ⟨nl, l3, _, h⟩ := bind_ok h
   split at h
   ·split at h
    ·split at h
     ·rename_i h1
      rw [← (ret_ok h).2]
      exact h1
     ·exact absurd h (NoOk.bad _ _ _)
    ·exact stmts_end k d e _ _ r l2 h
   ·split at h
    ·rename_i h1
     rw [← (ret_ok h).2]
     exact h1
    ·exact absurd h (NoOk.bad _ _ _)
theorem body_end (k : Nat) (d e : Int) (l : List Tk) (ns : List ByteArray) (r : List ByteArray × List Nd) (l2 : List Tk) (h : body k d e l ns = some (.ok (r, l2))) : hk l2 = e := by
 cases k with
 | zero => simp [body] at h
 | succ k =>
  unfold SP.body at h
  obtain ⟨a, l3, _, h⟩ := bind_ok h
  obtain ⟨b, l4, h2, h⟩ := bind_ok h
  rw [← (ret_ok h).2]
  exact stmts_end k d e l3 [] b l4 h2
theorem elems_end : ∀ (k : Nat) (d : Int) (l : List Tk) (ks r : List Nd) (l2 : List Tk), elems k d l ks = some (.ok (r, l2)) → hk l2 = 9
 | 0, d, l, ks, r, l2, h => by simp [elems] at h
 | k + 1, d, l, ks, r, l2, h => by
  unfold SP.elems at h
  split at h
  ·rename_i h1
   rw [← (ret_ok h).2]
   exact h1
  ·obtain ⟨n, l3, _, h⟩ := bind_ok h
   exact elems_end k d l3 _ r l2 h
def sP (x : Nd × Bool) : Nd × Bool := (shN x.1, x.2)
def sK (x : ByteArray × List Nd) : ByteArray × List Nd := (x.1, shL x.2)
def sB (x : List ByteArray × List Nd) : List ByteArray × List Nd := (x.1, shL x.2)
structure Si (k : Nat) : Prop where
 expr : ∀ d l l', Co l l' → Sim shN (expr k d l) (expr k (d + 1) l')
 casc : ∀ d l l', Co l l' → Sim shN (casc k d l) (casc k (d + 1) l')
 cascs : ∀ d l l' ks, Co l l' → Sim shL (cascs k d l ks) (cascs k (d + 1) l' (shL ks))
 msg : ∀ d l l', Co l l' → Sim shN (msg k d l) (msg k (d + 1) l')
 keys : ∀ d l l' tx ks, Co l l' → Sim sK (keys k d l tx ks) (keys k (d + 1) l' tx (shL ks))
 sent : ∀ d n l l', Co l l' → Sim shN (sent k d n l) (sent k (d + 1) (shN n) l')
 keyed : ∀ d l l', Co l l' → Sim sP (keyed k d l) (keyed k (d + 1) l')
 binary : ∀ d l l', Co l l' → Sim sP (binary k d l) (binary k (d + 1) l')
 unary : ∀ d l l', Co l l' → Sim sP (unary k d l) (unary k (d + 1) l')
 chain : ∀ d kd np l l', kd = 1 ∨ kd = 3 → Co l l' → Sim sP (chain k d kd np l) (chain k (d + 1) kd (sP np) l')
 prim : ∀ d l l', Co l l' → Sim sP (prim k d l) (prim k (d + 1) l')
 list : ∀ d l l', hk l ≠ 0 → Co l l' → Sim shN (list k d l) (list k (d + 1) l')
 elems : ∀ d l l' ks, Co l l' → Sim shL (elems k d l ks) (elems k (d + 1) l' (shL ks))
 elem : ∀ d l l', Co l l' → Sim shN (elem k d l) (elem k (d + 1) l')
 block : ∀ d l l', hk l ≠ 0 → Co l l' → Sim shN (block k d l) (block k (d + 1) l')
 body : ∀ d e l l' ns, e = 11 ∨ e = 0 → Co l l' → Sim sB (body k d e l ns) (body k (d + 1) 11 l' ns)
 stmts : ∀ d e l l' ks, e = 11 ∨ e = 0 → Co l l' → Sim shL (stmts k d e l ks) (stmts k (d + 1) 11 l' (shL ks))
 stmt : ∀ d l l', Co l l' → Sim sP (stmt k d l) (stmt k (d + 1) l')
theorem Co.atEnd {l l' : List Tk} (h : Co l l') {e : Int} (he : e = 11 ∨ e = 0) (hl : hk l = e) : hk l' = 11 := by
 cases h with
 | fin e_ f g h1 hf hg => exact hf
 | cons t l l' ht h =>
  have hl : t.f0 = e := hl
  show t.f0 = 11
  omega
theorem Co.notEnd {l l' : List Tk} (h : Co l l') {e : Int} (he : e = 11 ∨ e = 0) (hl : hk l ≠ e) (hl' : hk l' = 11) : Odd l := by
 cases h with
 | fin e_ f g h1 hf hg => exact Or.inl h1
 | cons t l l' ht h => exact Or.inr (Or.inl hl')
theorem si : ∀ k, Si k
 | 0 => by constructor <;> intros <;> (intro a l2 e; simp [expr, casc, cascs, msg, keys, sent, keyed, binary, unary, chain, prim, list, elems, elem, block, body, stmts, stmt] at e)
 | k + 1 => by
  have S : Si k := si k
  constructor
  case expr =>
   intro d l l' h
   unfold SP.expr
   refine Sim.top h fun t t' ht hh => Sim.ite (ht.iff (by decide) (by decide)) (fun h1 => ?_) (fun _ => S.casc d l l' h)
   cases h with
   | fin e f g he hf hg => exact absurd (hh.symm.trans he) (by omega)
   | cons u r r' hu hr =>
    obtain rfl := ht.eq (by omega)
    simp only [List.drop_succ_cons, List.drop_zero]
    have hw := Co.cons u r r' hu hr
    cases hr with
    | fin e f g he hf hg =>
     simp only
     rw [if_neg (by omega), if_neg (by omega)]
     exact S.casc d _ _ hw
    | cons u2 r2 r2' hu2 hr2 =>
     simp only
     refine Sim.ite Iff.rfl (fun h7 => ?_) (fun _ => S.casc d _ _ hw)
     refine Sim.within (Co.cons u2 r2 r2' hu2 hr2) hu2 fun l1 l1' hc => ?_
     exact (S.expr (d + 1) l1 l1' hc).bind fun e l2 l2' hc2 _ => Sim.ret hc2
  case casc =>
   intro d l l' h
   unfold SP.casc
   refine (S.keyed d l l' h).bind fun np l2 l2' hc _ => ?_
   refine Sim.top hc fun u u' hu hh => Sim.ite (hu.iff (by decide) (by decide)) (fun h15 => ?_) (fun _ => Sim.ret hc)
   refine Sim.ite (by rw [show (sP np).1 = shN np.1 from rfl, shN_kind]; exact Iff.rfl) (fun h7 => ?_) (fun _ => (NoOk.bad _ _).sim)
   rw [show (sP np).1 = shN np.1 from rfl, shN_kids, shN_text, shN_place]
   cases np.1.kids with
   | nil => exact fun a l2 e => by cases e
   | cons rcv r =>
    simp only [shL]
    exact (S.cascs d l2 l2' [rcv, .mk 9 np.1.text np.1.place 0 [] r] hc).bind fun ks l3 l3' hc3 _ => Sim.ret hc3
  case cascs =>
   intro d l l' ks h
   unfold SP.cascs
   refine Sim.top h fun u u' hu hh => Sim.ite (hu.iff (by decide) (by decide)) (fun h15 => ?_) (fun _ => Sim.ret h)
   refine (S.msg d _ _ (h.tl (by rw [hh]; omega))).bind fun m l2 l2' hc _ => ?_
   rw [← shL_app]
   exact S.cascs d l2 l2' _ hc
  case msg =>
   intro d l l' h
   unfold SP.msg
   refine Sim.top h fun t t' ht hh => Sim.ite (ht.iff (by decide) (by decide)) (fun h1 => ?_) (fun _ => Sim.ite (ht.iff (by decide) (by decide)) (fun h3 => ?_) (fun _ => Sim.ite (ht.iff (by decide) (by decide)) (fun h2 => ?_) (fun _ => (NoOk.bad _ _).sim)))
   ·obtain rfl := ht.eq (by omega)
    exact Sim.ret (h.tl (by rw [hh]; omega))
   ·obtain rfl := ht.eq (by omega)
    exact (S.unary d _ _ (h.tl (by rw [hh]; omega))).bind fun np l2 l2' hc _ => Sim.ret hc
   ·obtain rfl := ht.eq (by omega)
    exact (S.keys d l l' E [] h).bind fun tk l2 l2' hc _ => Sim.ret hc
  case keys =>
   intro d l l' tx ks h
   unfold SP.keys
   refine Sim.top h fun t t' ht hh => Sim.ite (ht.iff (by decide) (by decide)) (fun h2 => ?_) (fun _ => Sim.ret h)
   obtain rfl := ht.eq (by omega)
   refine (S.binary d _ _ (h.tl (by rw [hh]; omega))).bind fun np l2 l2' hc _ => ?_
   rw [show shL ks ++ [(sP np).1] = shL (ks ++ [np.1]) from (shL_app _ _).symm]
   exact S.keys d l2 l2' _ _ hc
  case sent =>
   intro d n l l' h
   unfold SP.sent
   refine (S.msg d l l' h).bind fun m l2 l2' hc _ => Sim.ret hc ?_
   rw [shN_text, shN_place, shN_kids]
   rfl
  case keyed =>
   intro d l l' h
   unfold SP.keyed
   refine (S.binary d l l' h).bind fun np l2 l2' hc _ => ?_
   refine Sim.top hc fun u u' hu hh => Sim.ite (hu.iff (by decide) (by decide)) (fun h2 => ?_) (fun _ => Sim.ret hc)
   exact (S.sent d np.1 l2 l2' hc).bind fun m l3 l3' hc3 _ => Sim.ret hc3
  case binary =>
   intro d l l' h
   unfold SP.binary
   exact (S.unary d l l' h).bind fun np l2 l2' hc _ => S.chain d 3 np l2 l2' (Or.inr rfl) hc
  case unary =>
   intro d l l' h
   unfold SP.unary
   exact (S.prim d l l' h).bind fun np l2 l2' hc _ => S.chain d 1 np l2 l2' (Or.inl rfl) hc
  case chain =>
   intro d kd np l l' hkd h
   unfold SP.chain
   refine Sim.top h fun u u' hu hh => Sim.ite (hu.iff (by omega) (by omega)) (fun h2 => ?_) (fun _ => Sim.ret h)
   exact (S.sent d np.1 l l' h).bind fun m l2 l2' hc _ => S.chain d kd (m, true) l2 l2' hkd hc
  case prim =>
   intro d l l' h
   unfold SP.prim
   refine Sim.top h fun t t' ht hh => Sim.ite (ht.iff (by decide) (by decide)) (fun h1 => ?_) (fun _ => Sim.ite (ht.iff (by decide) (by decide)) (fun h4 => ?_) (fun _ => Sim.ite (ht.iff (by decide) (by decide)) (fun h5 => ?_) (fun _ => Sim.ite (ht.iff (by decide) (by decide)) (fun h6 => ?_) (fun _ => Sim.ite (ht.iff (by decide) (by decide)) (fun h17 => ?_) (fun _ => Sim.ite (ht.iff (by decide) (by decide)) (fun h10 => ?_) (fun _ => Sim.ite (ht.iff (by decide) (by decide)) (fun h8 => ?_) (fun _ => (NoOk.bad _ _).sim)))))))
   ·obtain rfl := ht.eq (by omega)
    exact Sim.ret (h.tl (by rw [hh]; omega))
   ·obtain rfl := ht.eq (by omega)
    exact Sim.ret (h.tl (by rw [hh]; omega))
   ·obtain rfl := ht.eq (by omega)
    exact Sim.ret (h.tl (by rw [hh]; omega))
   ·obtain rfl := ht.eq (by omega)
    exact Sim.ret (h.tl (by rw [hh]; omega))
   ·exact (S.list d l l' (by rw [hh]; omega) h).bind fun n l2 l2' hc _ => Sim.ret hc
   ·exact (S.block d l l' (by rw [hh]; omega) h).bind fun n l2 l2' hc _ => Sim.ret hc
   ·refine Sim.within h (by rw [hh]; omega) fun l1 l1' hc => ?_
    refine (S.expr (d + 1) l1 l1' hc).bind fun n l2 l2' hc2 _ => ?_
    exact (Sim.need hc2 (by decide) (by decide)).bind fun _ l3 l3' hc3 _ => Sim.ret hc3
  case list =>
   intro d l l' h0 h
   unfold SP.list
   refine Sim.top h fun t t' ht hh => ?_
   obtain rfl := ht.eq (by rw [← hh]; exact h0)
   refine Sim.within h h0 fun l1 l1' hc => ?_
   refine (S.elems (d + 1) l1 l1' [] hc).bind fun ks l2 l2' hc2 he => ?_
   exact Sim.ret (hc2.tl (by rw [elems_end _ _ _ _ _ _ he]; decide))
  case elems =>
   intro d l l' ks h
   unfold SP.elems
   refine Sim.ite (h.hk_iff (by decide) (by decide)) (fun _ => Sim.ret h) (fun _ => ?_)
   refine (S.elem d l l' h).bind fun n l2 l2' hc _ => ?_
   rw [← shL_app]
   exact S.elems d l2 l2' _ hc
  case elem =>
   intro d l l' h
   unfold SP.elem
   refine Sim.top h fun t t' ht hh => Sim.ite ?_ (fun h1 => S.list d l l' (by rw [hh]; omega) h) (fun _ => Sim.ite (ht.iff (by decide) (by decide)) (fun h4 => ?_) (fun _ => Sim.ite (ht.iff (by decide) (by decide)) (fun h5 => ?_) (fun _ => Sim.ite (ht.iff (by decide) (by decide)) (fun h1 => ?_) (fun _ => Sim.ite ?_ (fun h6 => ?_) (fun _ => (NoOk.bad _ _).sim)))))
   ·have a := ht.iff (c := 17) (by decide) (by decide)
    have b := ht.iff (c := 8) (by decide) (by decide)
    omega
   ·obtain rfl := ht.eq (by omega)
    exact Sim.ret (h.tl (by rw [hh]; omega))
   ·obtain rfl := ht.eq (by omega)
    exact Sim.ret (h.tl (by rw [hh]; omega))
   ·obtain rfl := ht.eq (by omega)
    exact Sim.ret (h.tl (by rw [hh]; omega))
   ·have a := ht.iff (c := 6) (by decide) (by decide)
    have b := ht.iff (c := 2) (by decide) (by decide)
    have c := ht.iff (c := 3) (by decide) (by decide)
    omega
   ·obtain rfl := ht.eq (by omega)
    exact Sim.ret (h.tl (by rw [hh]; omega))
  case block =>
   intro d l l' h0 h
   unfold SP.block
   refine Sim.top h fun t t' ht hh => ?_
   obtain rfl := ht.eq (by rw [← hh]; exact h0)
   refine Sim.within h h0 fun l1 l1' hc => ?_
   refine (Sim.args k l1 l1' [] hc).bind fun ns l2 l2' hc2 _ => ?_
   have hbar : Sim id (if ns ≠ [] ∧ hk l2 ≠ 11 then bind (need 12 l2) fun _ l4 => ret () l4 else ret () l2) (if id ns ≠ [] ∧ hk l2' ≠ 11 then bind (need 12 l2') fun _ l4 => ret () l4 else ret () l2') := by
    by_cases hns : ns = []
    ·rw [if_neg (fun x => x.1 hns), if_neg (fun x => x.1 hns)]
     exact Sim.ret hc2
    ·cases hc2 with
     | fin e f g he hf hg =>
      rw [if_pos ⟨hns, by show e.f0 ≠ 11; omega⟩]
      refine NoOk.sim (NoOk.bind ?_)
      refine NoOk.top fun t r e1 => ?_
      have e1 := (List.cons.inj e1).1
      subst e1
      rw [if_neg (by omega)]
      exact NoOk.bad _ _
     | cons u r r' hu hr =>
      refine Sim.ite Iff.rfl (fun _ => ?_) (fun _ => Sim.ret (Co.cons u r r' hu hr))
      exact (Sim.need (Co.cons u r r' hu hr) (by decide) (by decide)).bind fun _ l3 l3' hc3 _ => Sim.ret hc3
   refine hbar.bind fun _ l4 l4' hc4 _ => ?_
   refine (S.body (d + 1) 11 l4 l4' ns (Or.inl rfl) hc4).bind fun nk l5 l5' hc5 he => ?_
   exact Sim.ret (hc5.tl (by rw [body_end _ _ _ _ _ _ _ he]; decide))
  case body =>
   intro d e l l' ns he h
   unfold SP.body
   refine (Sim.temps h ns).bind fun ns2 l2 l2' hc _ => ?_
   exact (S.stmts d e l2 l2' [] he hc).bind fun ks l3 l3' hc3 _ => Sim.ret hc3
  case stmts =>
   intro d e l l' ks he h
   unfold SP.stmts
   by_cases h1 : hk l = e
   ·rw [if_pos h1, if_pos (h.atEnd he h1)]
    exact Sim.ret h
   ·rw [if_neg h1]
    by_cases h2 : hk l' = 11
    ·exact NoOk.sim (NoOk.bind (stmt_no k d l (h.notEnd he h1 h2)))
    ·rw [if_neg h2]
     refine (S.stmt d l l' h).bind fun nl l2 l2' hc _ => ?_
     refine Sim.ite (hc.hk_iff (by decide) (by decide)) (fun h14 => ?_) (fun _ => ?_)
     ·have hc2 := hc.tl (by rw [h14]; decide)
      refine Sim.ite Iff.rfl (fun _ => ?_) (fun _ => ?_)
      ·by_cases h3 : hk (SP.tl l2) = e
       ·rw [if_pos h3, if_pos (hc2.atEnd he h3)]
        exact Sim.ret hc2 (shL_app _ _).symm
       ·rw [if_neg h3]
        exact (NoOk.bad _ _).sim
      ·rw [show shL ks ++ [(sP nl).1] = shL (ks ++ [nl.1]) from (shL_app _ _).symm]
       exact S.stmts d e _ _ _ he hc2
     ·by_cases h3 : hk l2 = e
      ·rw [if_pos h3, if_pos (hc.atEnd he h3)]
       exact Sim.ret hc (shL_app _ _).symm
      ·rw [if_neg h3]
       exact (NoOk.bad _ _).sim
  case stmt =>
   intro d l l' h
   unfold SP.stmt
   refine Sim.ite (h.hk_iff (by decide) (by decide)) (fun h13 => ?_) (fun _ => ?_)
   ·refine Sim.top h fun t t' ht hh => ?_
    obtain rfl := ht.eq (by omega)
    exact (S.expr d _ _ (h.tl (by rw [h13]; decide))).bind fun n l2 l2' hc _ => Sim.ret hc
   ·exact (S.expr d l l' h).bind fun n l2 l2' hc _ => Sim.ret hc
end SP
end Go.Proofs.Ytpodpmjlkbbkoaa.P
