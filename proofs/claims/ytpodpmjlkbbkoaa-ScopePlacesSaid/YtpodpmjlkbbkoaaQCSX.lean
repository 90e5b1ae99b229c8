import Derived.Test.YtpodpmjlkbbkoaaQCSU
import Derived.Test.YtpodpmjlkbbkoaaQCTA
import Derived.Test.YtpodpmjlkbbkoaaQCTY
set_option linter.all false
namespace Go.Proofs.Ytpodpmjlkbbkoaa.P
open Go.RowKit Go.Proofs.YtpodpmjlkbbkoaaW.PrintWords Go.Proofs.YtpodpmjlkbbkoaaW.PrintLast Go.Proofs.YtpodpmjlkbbkoaaW.PrintMore
namespace SP
theorem part_eq (slots : List ByteArray) (fs : List Fr) (rcv : Bool) (acc : List Use) (x : Nd) : part slots fs rcv acc x =
  if x.kind = 5 then (if (find slots x.text fs).1.kind = -1 ∨ (find slots x.text fs).1.kind = 1 ∧ rcv = false then .error x.place else .ok (acc ++ [{ (find slots x.text fs).1 with place := x.place }]))
  else if x.kind = 6 then (if (find slots x.text fs).2 = true ∨ (find slots x.text fs).1.kind ≠ 3 ∧ (find slots x.text fs).1.kind ≠ 4 then .error x.place else parts slots fs false (acc ++ [{ (find slots x.text fs).1 with place := x.place, write := true }]) x.kids)
  else if x.kind = 10 then inUnit slots x fs acc
  else parts slots fs (decide (x.kind = 7 ∨ x.kind = 8)) acc x.kids := by
 cases x
 simp only [part, inUnit, Nd.kind, Nd.text, Nd.place, Nd.n, Nd.names, Nd.kids]
 first | rfl | (congr 1; done) | (repeat' split) <;> rfl
end SP
theorem bne_t {a b : Int} (h : a ≠ b) : (a != b) = true := bne_iff_ne.2 h
theorem bne_f {a b : Int} (h : a = b) : (a != b) = false := by subst h; simp
theorem scope_part.all (slots : List ByteArray) : ∀ (n : Nat) (x : SP.Nd), SP.cnt x ≤ n → PartC x slots
 | 0, x, h => by
  have := SP.cnt_eq x
  omega
 | n + 1, x, h => by
  have hce := SP.cnt_eq x
  have hparts : ∀ y, y ∈ x.kids → PartC y slots := fun y hy => scope_part.all slots n y (by have := SP.cnt_mem hy; omega)
  intro fs acc rcv wb q fv An Ak As cn ck cs w hq hqw hw hx hfs hl1 ha1
  have hl : fs.length ≤ 1073741824 := by omega
  have ha : acc.length < 1099511627776 := by omega
  rw [SP.part_eq]
  by_cases h5 : x.kind = 5
  ·rw [if_pos h5]
   have k5 : (x.kind == 5) = true := beq_iff_eq.2 h5
   by_cases hb : (SP.find slots x.text fs).1.kind = -1
   ·rw [if_pos (Or.inl hb)]
    exact scope_part.varBad w hq hqw hw hx hfs hl ha k5 (beq_iff_eq.2 hb)
   ·by_cases hb1 : (SP.find slots x.text fs).1.kind = 1
    ·by_cases hr : rcv = false
     ·rw [if_pos (Or.inr ⟨hb1, hr⟩)]
      exact scope_part.varSuper w hq hqw hw hx hfs hl ha k5 (beq_eq_false_iff_ne.2 hb) (beq_iff_eq.2 hb1) hr
     ·rw [if_neg (by rintro (h | ⟨_, h⟩); exact hb h; exact hr h)]
      exact scope_part.varSelf w hq hqw hw hx hfs hl ha k5 (beq_eq_false_iff_ne.2 hb) (beq_iff_eq.2 hb1) (by cases rcv; exact absurd rfl hr; rfl)
    ·rw [if_neg (by rintro (h | ⟨h, _⟩); exact hb h; exact hb1 h)]
     exact scope_part.varGood w hq hqw hw hx hfs hl ha k5 (beq_eq_false_iff_ne.2 hb) (beq_eq_false_iff_ne.2 hb1)
  ·rw [if_neg h5]
   have k5 : (x.kind == 5) = false := beq_eq_false_iff_ne.2 h5
   by_cases h6 : x.kind = 6
   ·rw [if_pos h6]
    have k6 : (x.kind == 6) = true := beq_iff_eq.2 h6
    by_cases hb : (SP.find slots x.text fs).2 = true
    ·rw [if_pos (Or.inl hb)]
     exact scope_part.setArg w hq hqw hw hx hfs hl ha k5 k6 hb
    ·have hb' : (SP.find slots x.text fs).2 = false := by cases hf : (SP.find slots x.text fs).2 with | true => exact absurd hf hb | false => rfl
     have hkk : decide (x.kind = 7 ∨ x.kind = 8) = false := by rw [h6]; rfl
     by_cases h3 : (SP.find slots x.text fs).1.kind = 3
     ·rw [if_neg (by rintro (h | ⟨h, _⟩); exact hb h; exact h h3)]
      exact scope_part.setTemp w hq hqw hw hx hfs hl ha hparts hl1 ha1 k5 k6 hb' (bne_f h3) ⟨by rw [hkk]⟩
     ·by_cases h4 : (SP.find slots x.text fs).1.kind = 4
      ·rw [if_neg (by rintro (h | ⟨_, h⟩); exact hb h; exact h h4)]
       exact scope_part.setSlot w hq hqw hw hx hfs hl ha hparts hl1 ha1 k5 k6 hb' (bne_t h3) (bne_f h4) ⟨by rw [hkk]⟩
      ·rw [if_pos (Or.inr ⟨h3, h4⟩)]
       exact scope_part.setBad w hq hqw hw hx hfs hl ha k5 k6 hb' (bne_t h3) (bne_t h4)
   ·rw [if_neg h6]
    have k6 : (x.kind == 6) = false := beq_eq_false_iff_ne.2 h6
    by_cases h10 : x.kind = 10
    ·rw [if_pos h10]
     exact scope_part.block (f := SP.inUnit slots x) (m := SP.cnt x) (n := SP.cnt x) w hq hqw hw hx hfs hl ha
      (fun fs acc wb q fv An Ak As cn ck cs w hq hqw hw hx hfs hl1 ha1 => scope_unit.calls w hq hqw hw hx hfs (by omega) (by omega) hparts hl1 ha1 ⟨rfl⟩) hl1 ha1 k5 k6 (beq_iff_eq.2 h10)
    ·rw [if_neg h10]
     exact scope_part.rest w hq hqw hw hx hfs hl ha hparts hl1 ha1 k5 k6 (beq_eq_false_iff_ne.2 h10) ⟨rfl⟩
theorem scope_unit.all {x : SP.Nd} {slots : List ByteArray} : UnitC x (SP.inUnit slots x) slots (SP.cnt x) (SP.cnt x) := fun fs acc wb q fv An Ak As cn ck cs w hq hqw hw hx hfs hl1 ha1 => scope_unit.calls w hq hqw hw hx hfs (by omega) (by omega) (fun y _ => scope_part.all slots _ y (Nat.le_refl _)) hl1 ha1 ⟨rfl⟩
end Go.Proofs.Ytpodpmjlkbbkoaa.P
set_option maxHeartbeats 16000000
set_option maxRecDepth 100000
namespace Go.Proofs.Ytpodpmjlkbbkoaa.P
open Go.RowKit Go.Proofs.YtpodpmjlkbbkoaaW.PrintWords Go.Proofs.YtpodpmjlkbbkoaaW.PrintLast Go.Proofs.YtpodpmjlkbbkoaaW.PrintMore
def ResA (r : SP.W) (w : World) (e : Ending) (w' : World) : Prop := match r with
 | .error p => e = .returned (.tuple #[.slice none 0 0, .int .i64 p, .int .i64 21]) ∧ Below w.heap.size w w'
 | .ok us => ∃ A c, e = .returned (.tuple #[.slice A us.length c, .int .i64 0, .int .i64 0]) ∧ kUse.R 29 w' 0 (fun k => w.heap.size ≤ k) (.slice A us.length c) us ∧ Below w.heap.size w w'
theorem scope_resolve.calls {x : SP.Nd} {slots : List ByteArray} {An Ak As : Option Addr} {cn ck cs : Nat} (w : World) (hs : SL (fun k => k < w.heap.size) w As cs slots) (hx : NQ (fun k => k < w.heap.size) w x (.slice An x.names.length cn) (.slice Ak x.kids.length ck)) (hcn : SP.cnt x ≤ 1073741824) :
  Calls Try.prog 12 #[.agg #[.int .i64 x.kind, .string x.text, .int .i64 x.place, .int .i64 x.n, .slice An x.names.length cn, .slice Ak x.kids.length ck], .slice As slots.length cs] w (ResA (SP.resolve slots x) w) := by
 have hu36 := Try.underlying36
 have hu23 := Try.underlying23
 have hmf : ∀ (fn : Fn) (first cap : Array Value) (w : World), (Instr.makeFunc fn first cap).run Try.prog w = .ok (.func fn first cap) w := fun _ _ _ _ => rfl
 have B := Aside0.mk (Fr.refl (fun k => w.heap.size ≤ k) w)
 have G := Aside0.mk hs
 have A := Aside0.mk hx
 have Z := Aside0.mk (Nat.le_refl w.heap.size)
 clear hs hx
 go_enter_defers Try.func12, Try.ntmps12
 go_wp2_with (first
  | ((with_reducible refine gate_dst (N := 2) rfl ?_); apply boxE 2 #[.int .i64 x.kind, .string x.text, .int .i64 x.place, .int .i64 x.n, .slice An x.names.length cn, .slice Ak x.kids.length ck] 36; intro u C o d v; replace B := B.f0 d; replace G := G.l0 d; replace A := A.n0 d; replace Z := Z.a v; clear v d; have s := o.c6)
  | ((with_reducible refine gate_dst (N := 4) rfl ?_); apply boxE 4 #[.slice none 0 0] 23; intro l E b d v; replace B := B.f0 d; replace G := G.l0 d; replace A := A.n0 d; replace o := o.b0 d; replace Z := Z.a v; clear v d; clear s; have s := o.c6; have e := b.e1; have y : l ≠ u ∧ u ≠ l := (by have z := Z.out; omega))
  | ((with_reducible refine gate_dst (N := 5) rfl ?_); apply boxE 5 #[.int .i64 0] 3; intro m F c d v; replace B := B.f0 d; replace G := G.l0 d; replace A := A.n0 d; replace o := o.b0 d; replace b := b.b0 d; replace Z := Z.a v; clear v d; clear s e y; have s := o.c6; have e := b.e1; have j := c.e1; have y : m ≠ u ∧ u ≠ m ∧ m ≠ l ∧ l ≠ m ∧ l ≠ u ∧ u ≠ l := (by have z := Z.out; omega))
  | ((with_reducible refine gate_dst (N := 6) rfl ?_); apply boxE 6 #[.int .i64 0] 24; intro p H i d v; replace B := B.f0 d; replace G := G.l0 d; replace A := A.n0 d; replace o := o.b0 d; replace b := b.b0 d; replace c := c.b0 d; replace Z := Z.a v; clear v d; clear s e j y; have s := o.c6; have e := b.e1; have j := c.e1; have q := i.e1; have y : m ≠ u ∧ u ≠ m ∧ m ≠ l ∧ l ≠ m ∧ m ≠ p ∧ p ≠ m ∧ p ≠ u ∧ u ≠ p ∧ p ≠ l ∧ l ≠ p ∧ l ≠ u ∧ u ≠ l := (by have z := Z.out; omega))
  | ((with_reducible refine gate_dst (N := 11) rfl ?_); apply boxE 11 #[.slice As slots.length cs, .slice none 0 0] 53; intro wb X r d v; replace B := B.f0 d; replace G := G.l0 d; replace A := A.n0 d; replace o := o.b0 d; replace b := b.b0 d; replace c := c.b0 d; replace i := i.b0 d; replace Z := Z.a v; clear v d; clear s e j q y; have s := o.c6; have e := b.e1; have j := c.e1; have q := i.e1; have t := r.c2; have y : m ≠ u ∧ u ≠ m ∧ m ≠ l ∧ l ≠ m ∧ m ≠ p ∧ p ≠ m ∧ m ≠ wb ∧ wb ≠ m ∧ p ≠ u ∧ u ≠ p ∧ p ≠ l ∧ l ≠ p ∧ p ≠ wb ∧ wb ≠ p ∧ l ≠ u ∧ u ≠ l ∧ l ≠ wb ∧ wb ≠ l := (by have z := Z.out; omega))
  | ((with_reducible refine gate_dst (N := 14) rfl ?_); apply goE 14 Try.func17 (scope_unit.all (x := x) (slots := slots) [] [] wb u (.pointer none) An Ak As cn ck cs X (by have z := Z.out; omega) (by have z := Z.out; omega) ⟨none, 0, r.out, SL.mono G.out (fun k (hk : k < w.heap.size) _ => (show k < X.heap.size ∧ k ≠ wb ∧ k ≠ u from by have z := Z.out; omega)), Kd.R_nil _ _ _ _ _⟩ (A.out.mono (fun k (hk : k < w.heap.size) _ => (show k < X.heap.size ∧ k ≠ wb ∧ k ≠ u from by have z := Z.out; omega))) rfl (by simpa using hcn) (by simpa using hcn)); rintro K L J; rcases hr_ : SP.inUnit slots x [] [] with p_ | us; (rw [hr_] at J; obtain ⟨rfl, M⟩ := J; refine Or.inr ⟨_, rfl, ?_⟩; refine resolve_stop rfl rfl rfl (by have z := Z.out; omega) (M.blk b.out (show ¬ (l = wb ∨ l = u) from by have z := Z.out; omega)) (M.blk c.out (show ¬ (m = wb ∨ m = u) from by have z := Z.out; omega)) (M.blk i.out (show ¬ (p = wb ∨ p = u) from by have z := Z.out; omega)) (fun w' hF2_ => ?_); rw [show SP.resolve slots x = _ from hr_]; exact ⟨rfl, (((B.out.then_ M (fun k (hk : k = wb ∨ k = u) => .inl (show w.heap.size ≤ k from by have z := Z.out; omega))).then_ hF2_ (fun k (hk : k = l ∨ k = m ∨ k = p) => .inl (show w.heap.size ≤ k from by have z := Z.out; omega))).below (Below.refl _ _) (fun k h => h) (Nat.le_refl _))⟩); rw [hr_] at J; obtain ⟨rfl, ⟨q', V, W, O, Al, cl, Y, hu_⟩, d⟩ := J; refine Or.inl ⟨_, rfl, ?_⟩; clear G A; replace Z := Aside0.mk (And.intro (V) Z.out); replace Z := Aside0.mk (And.intro (O) Z.out); have z := Z.out; replace B := Aside0.mk (B.out.then_ d (fun k (hk : (k = wb ∨ k = u)) => (show (w.heap.size ≤ k) ∨ w.heap.size ≤ k from by omega))); replace b := Aside0.mk (d.blk b.out (show ¬ ((l = wb ∨ l = u)) from by omega)); replace c := Aside0.mk (d.blk c.out (show ¬ ((m = wb ∨ m = u)) from by omega)); replace i := Aside0.mk (d.blk i.out (show ¬ ((p = wb ∨ p = u)) from by omega)); clear z; replace Z := Z.k d; replace r := Aside0.mk Y; have U := Aside0.mk hu_; clear o Y hu_ V W O d; clear s; clear e j q t y; have e := b.e1; have j := c.e1; have q := i.e1; have t := r.c2; have y : m ≠ l ∧ l ≠ m ∧ m ≠ p ∧ p ≠ m ∧ m ≠ wb ∧ wb ≠ m ∧ p ≠ l ∧ l ≠ p ∧ p ≠ wb ∧ wb ≠ p ∧ l ≠ wb ∧ wb ≠ l := (by have z := Z.out; omega)))
 have I := b.s1 (.slice Al us.length cl)
 clear b
 obtain ⟨P, D, d, b⟩ := I
 rw [D]
 clear D
 have z := Z.out
 replace B := B.f1 d (by omega)
 replace c := c.b1 d (by omega)
 replace i := i.b1 d (by omega)
 replace r := r.b1 d (by omega)
 replace U := U.r1 d (fun k hk => by omega)
 clear z
 replace Z := Z.k d
 clear d
 clear e j q t y
 have e := b.e1
 have j := c.e1
 have q := i.e1
 have t := r.c2
 have y : m ≠ l ∧ l ≠ m ∧ m ≠ p ∧ p ≠ m ∧ m ≠ wb ∧ wb ≠ m ∧ p ≠ l ∧ l ≠ p ∧ p ≠ wb ∧ wb ≠ p ∧ l ≠ wb ∧ wb ≠ l := (by have z := Z.out; omega)
 have I := c.s1 (.int .i64 0)
 clear c
 obtain ⟨Q, D, d, c⟩ := I
 rw [D]
 clear D
 have z := Z.out
 replace B := B.f1 d (by omega)
 replace b := b.b1 d (by omega)
 replace i := i.b1 d (by omega)
 replace r := r.b1 d (by omega)
 replace U := U.r1 d (fun k hk => by omega)
 clear z
 replace Z := Z.k d
 clear d
 clear e j q t y
 have e := b.e1
 have j := c.e1
 have q := i.e1
 have t := r.c2
 have y : m ≠ l ∧ l ≠ m ∧ m ≠ p ∧ p ≠ m ∧ m ≠ wb ∧ wb ≠ m ∧ p ≠ l ∧ l ≠ p ∧ p ≠ wb ∧ wb ≠ p ∧ l ≠ wb ∧ wb ≠ l := (by have z := Z.out; omega)
 have I := i.s1 (.int .i64 0)
 clear i
 obtain ⟨R, D, d, i⟩ := I
 rw [D]
 clear D
 have z := Z.out
 replace B := B.f1 d (by omega)
 replace b := b.b1 d (by omega)
 replace c := c.b1 d (by omega)
 replace r := r.b1 d (by omega)
 replace U := U.r1 d (fun k hk => by omega)
 clear z
 replace Z := Z.k d
 clear d
 clear e j q t y
 have e := b.e1
 have j := c.e1
 have q := i.e1
 have t := r.c2
 have y : m ≠ l ∧ l ≠ m ∧ m ≠ p ∧ p ≠ m ∧ m ≠ wb ∧ wb ≠ m ∧ p ≠ l ∧ l ≠ p ∧ p ≠ wb ∧ wb ≠ p ∧ l ≠ wb ∧ wb ≠ l := (by have z := Z.out; omega)
 exact resolve_idle rfl rfl rfl b.out c.out i.out (show ResA _ _ _ _ from by rw [show SP.resolve slots x = _ from hr_]; exact ⟨_, _, rfl, R_mono' U.out (fun k hk _ => by have hk2 : k = q' := hk; have z := Z.out; omega), B.out.below (Below.refl _ _) (fun k h => h) (Nat.le_refl _)⟩)
end Go.Proofs.Ytpodpmjlkbbkoaa.P
set_option maxHeartbeats 16000000
set_option maxRecDepth 100000
namespace Go.Proofs.Ytpodpmjlkbbkoaa.P
open Go.RowKit Go.Proofs.YtpodpmjlkbbkoaaW.PrintWords Go.Proofs.YtpodpmjlkbbkoaaW.PrintLast Go.Proofs.YtpodpmjlkbbkoaaW.PrintMore
theorem results_t4 {fn : Func} {t u v x : Tmp} (h : fn.results = #[.tmp t, .tmp u, .tmp v, .tmp x]) (tmps : Array Value) (P : Program) (w : World) :
  (results fn tmps).run P w = .ok (.tuple #[tmps.getD t undef, tmps.getD u undef, tmps.getD v undef, tmps.getD x undef]) w := by
 simp [results, h]
def ofW : SP.W → List SP.Use × Int × Int × Bool
 | .error p => ([], p, 21, true)
 | .ok us => (us, 0, 0, true)
theorem ofW_ok (r : SP.W) : (ofW r).2.2.2 = true := by cases r <;> rfl
def resolvedS (x : SP.Nd) (y : Int) (slots : List ByteArray) : List SP.Use × Int × Int × Bool := if y = 0 then ofW (SP.resolve slots x) else ([], 0, y, false)
def RsA (o : List SP.Use × Int × Int × Bool) (w : World) (e : Ending) (w' : World) : Prop := ∃ A c, e = .returned (.tuple #[.slice A o.1.length c, .int .i64 o.2.1, .int .i64 o.2.2.1, .bool o.2.2.2]) ∧ kUse.R 29 w' 0 (fun k => w.heap.size ≤ k) (.slice A o.1.length c) o.1 ∧ Below w.heap.size w w'
theorem ResA.rs {r : SP.W} {w w' : World} {e : Ending} (h : ResA r w e w') : ∃ A c, e = .returned (.tuple #[.slice A (ofW r).1.length c, .int .i64 (ofW r).2.1, .int .i64 (ofW r).2.2.1]) ∧ kUse.R 29 w' 0 (fun k => w.heap.size ≤ k) (.slice A (ofW r).1.length c) (ofW r).1 ∧ Below w.heap.size w w' := by
 cases r with
 | error p => exact ⟨none, 0, h.1, Kd.R_nil _ _ _ _ _, h.2⟩
 | ok us => exact h
theorem law_resolved.bad {s : ByteArray} {x : SP.Nd} {p y : Int} {slots : List ByteArray} {As : Option Addr} {cs : Nat} (w : World) (h10 : ∀ w, Calls Try.prog 10 #[.string s] w (NodeA x p y w)) (hs : SL (fun k => k < w.heap.size) w As cs slots) (hcn : SP.cnt x ≤ 1073741824) (hy : (y != 0) = true) :
  Calls Try.prog 6 #[.string s, .bool false, .slice As slots.length cs] w (RsA (resolvedS x y slots) w) := by
 have hu36 := Try.underlying36
 have hre : resolvedS x y slots = ([], 0, y, false) := by unfold resolvedS; rw [if_neg (bne_iff_ne.1 hy)]
 have j := Aside0.mk (Fr.refl (fun k => w.heap.size ≤ k) w)
 have l := Aside0.mk hs
 have Z := Aside0.mk (Nat.le_refl w.heap.size)
 clear hs
 go_enter Try.func6, Try.ntmps6
 go_wp2_with (first
  | ((with_reducible refine gate_dst (N := 18) rfl ?_); apply goE 18 Try.func10 (h10 w); rintro B v ⟨v_, rfl, ⟨nvn, kvn, rfl, d⟩, m⟩; refine Or.inl ⟨_, rfl, ?_⟩; obtain ⟨Ann, cnn, rfl, _⟩ := Kd.Q_slice d.1; obtain ⟨Akn, ckn, rfl, _⟩ := Kd.Q_slice d.2; have c : Fr (fun _ => False) w v := Fr.of_below m; replace j := j.f0 c; replace l := l.l0 c; replace Z := Z.k c; have i := Aside0.mk (d.mono (T := fun k => w.heap.size ≤ k ∧ k < v.heap.size) (fun k r t => ⟨r, t⟩)); clear c d m)
  | ((with_reducible refine gate_dst (N := 10) rfl ?_); apply boxE 10 #[.int .i64 0, .string ⟨#[]⟩, .int .i64 0, .int .i64 0, .slice none 0 0, .slice none 0 0] 36; intro z D b c o; replace j := j.f0 c; replace l := l.l0 c; replace i := i.n0 c; replace Z := Z.a o; clear o c; have e := b.e6))
 have u := b.s6 (.int .i64 x.kind) (.string x.text) (.int .i64 x.place) (.int .i64 x.n) (.slice Ann x.names.length cnn) (.slice Akn x.kids.length ckn)
 clear b
 obtain ⟨G, q, c, b⟩ := u
 rw [q]
 clear q
 have A := Z.out
 replace j := j.f1 c (by omega)
 replace l := l.l1 c (fun k hk => by omega)
 replace i := i.n1 c (fun k hk => by omega)
 clear A
 replace Z := Z.k c
 clear c
 clear e
 have e := b.e6
 refine bodyPost_ret (results_t4 rfl _ _ _) rfl ?_
 exact ⟨none, 0, by rw [hre]; rfl, by rw [hre]; exact Kd.R_nil _ _ _ _ _, j.out.below (Below.refl _ _) (fun k h => h) (Nat.le_refl _)⟩
theorem law_resolved.good {s : ByteArray} {x : SP.Nd} {p y : Int} {slots : List ByteArray} {As : Option Addr} {cs : Nat} (w : World) (h10 : ∀ w, Calls Try.prog 10 #[.string s] w (NodeA x p y w)) (hs : SL (fun k => k < w.heap.size) w As cs slots) (hcn : SP.cnt x ≤ 1073741824) (hy : (y != 0) = false) :
  Calls Try.prog 6 #[.string s, .bool false, .slice As slots.length cs] w (RsA (resolvedS x y slots) w) := by
 have hu36 := Try.underlying36
 have hre : resolvedS x y slots = ofW (SP.resolve slots x) := by unfold resolvedS; rw [if_pos (by simpa using hy)]
 have m := Aside0.mk (Fr.refl (fun k => w.heap.size ≤ k) w)
 have o := Aside0.mk hs
 have Z := Aside0.mk (Nat.le_refl w.heap.size)
 clear hs
 go_enter Try.func6, Try.ntmps6
 go_wp2_with (first
  | ((with_reducible refine gate_dst (N := 18) rfl ?_); apply goE 18 Try.func10 (h10 w); rintro I G ⟨v_, rfl, ⟨nvn, kvn, rfl, j⟩, l⟩; refine Or.inl ⟨_, rfl, ?_⟩; obtain ⟨Ann, cnn, rfl, _⟩ := Kd.Q_slice j.1; obtain ⟨Akn, ckn, rfl, _⟩ := Kd.Q_slice j.2; have e : Fr (fun _ => False) w G := Fr.of_below l; replace m := m.f0 e; replace o := o.l0 e; replace Z := Z.k e; have i := Aside0.mk (j.mono (T := fun k => w.heap.size ≤ k ∧ k < G.heap.size) (fun k z q => ⟨z, q⟩)); clear e j l)
  | ((with_reducible refine gate_dst (N := 10) rfl ?_); apply boxE 10 #[.int .i64 0, .string ⟨#[]⟩, .int .i64 0, .int .i64 0, .slice none 0 0, .slice none 0 0] 36; intro J U b e t; replace m := m.f0 e; replace o := o.l0 e; replace i := i.n0 e; replace Z := Z.a t; clear t e; have d := b.e6)
  | ((with_reducible refine gate_dst (N := 35) rfl ?_); have B := b.s6 (.int .i64 x.kind) (.string x.text) (.int .i64 x.place) (.int .i64 x.n) (.slice Ann x.names.length cnn) (.slice Akn x.kids.length ckn); clear b; obtain ⟨v, u, e, b⟩ := B; rw [u]; clear u; have D := Z.out; replace m := m.f1 e (by omega); replace o := o.l1 e (fun k hk => by omega); replace i := i.n1 e (fun k hk => by omega); clear D; replace Z := Z.k e; clear e; clear d; have d := b.e6; apply goE 35 Try.func12 (scope_resolve.calls (x := x) (slots := slots) v (SL.mono o.out (fun k (hk : k < w.heap.size) _ => (show k < v.heap.size from by have D := Z.out; omega))) (i.out.mono (fun k hk q => q)) hcn); rintro I M r; replace r := r.rs; obtain ⟨A, c, rfl, hu_, l⟩ := r; refine Or.inl ⟨_, rfl, ?_⟩; have e : Fr (fun _ => False) v M := Fr.of_below l; replace m := m.f0 e; replace o := o.l0 e; replace i := i.n0 e; replace b := b.b0 e; replace Z := Z.k e; have O := Aside0.mk hu_; clear e hu_ l; clear d; have d := b.e6))
 refine bodyPost_ret (results_t4 rfl _ _ _) rfl ?_
 refine ⟨A, c, by rw [hre, ofW_ok]; rfl, by rw [hre]; exact R_mono' O.out (fun k (hk : v.heap.size ≤ k) _ => (show w.heap.size ≤ k from by have D := Z.out; omega)), m.out.below (Below.refl _ _) (fun k h => h) (Nat.le_refl _)⟩
theorem law_resolved.badM {s : ByteArray} {x x0 : SP.Nd} {p y p0 y0 : Int} {slots : List ByteArray} {As : Option Addr} {cs : Nat} (w : World) (h10 : ∀ w, Calls Try.prog 10 #[.string s] w (NodeA x0 p0 y0 w)) (h11 : ∀ w, Calls Try.prog 11 #[.string s] w (NodeA x p y w)) (hs : SL (fun k => k < w.heap.size) w As cs slots) (hcn : SP.cnt x ≤ 1073741824) (hy : (y != 0) = true) :
  Calls Try.prog 6 #[.string s, .bool true, .slice As slots.length cs] w (RsA (resolvedS x y slots) w) := by
 have hu36 := Try.underlying36
 have hre : resolvedS x y slots = ([], 0, y, false) := by unfold resolvedS; rw [if_neg (bne_iff_ne.1 hy)]
 have j := Aside0.mk (Fr.refl (fun k => w.heap.size ≤ k) w)
 have o := Aside0.mk hs
 have Z := Aside0.mk (Nat.le_refl w.heap.size)
 clear hs
 go_enter Try.func6, Try.ntmps6
 go_wp2_with (first
  | ((with_reducible refine gate_dst (N := 18) rfl ?_); apply goE 18 Try.func10 (h10 w); rintro G B ⟨v_, rfl, ⟨nva, kva, rfl, d⟩, l⟩; refine Or.inl ⟨_, rfl, ?_⟩; obtain ⟨Ana, cna, rfl, _⟩ := Kd.Q_slice d.1; obtain ⟨Aka, cka, rfl, _⟩ := Kd.Q_slice d.2; have e : Fr (fun _ => False) w B := Fr.of_below l; replace j := j.f0 e; replace o := o.l0 e; replace Z := Z.k e; have i := Aside0.mk (d.mono (T := fun k => w.heap.size ≤ k ∧ k < B.heap.size) (fun k q r => ⟨q, r⟩)); clear e d l)
  | ((with_reducible refine gate_dst (N := 10) rfl ?_); apply boxE 10 #[.int .i64 0, .string ⟨#[]⟩, .int .i64 0, .int .i64 0, .slice none 0 0, .slice none 0 0] 36; intro I J b e u; replace j := j.f0 e; replace o := o.l0 e; replace i := i.n0 e; replace Z := Z.a u; clear u e; have c := b.e6)
  | ((with_reducible refine gate_dst (N := 25) rfl ?_); have t := b.s6 (.int .i64 x0.kind) (.string x0.text) (.int .i64 x0.place) (.int .i64 x0.n) (.slice Ana x0.names.length cna) (.slice Aka x0.kids.length cka); clear b; obtain ⟨z, m, e, b⟩ := t; rw [m]; clear m; have A := Z.out; replace j := j.f1 e (by omega); replace o := o.l1 e (fun k hk => by omega); replace i := i.n1 e (fun k hk => by omega); clear A; replace Z := Z.k e; clear e; clear c; have c := b.e6; apply goE 25 Try.func11 (h11 z); rintro G D ⟨v_, rfl, ⟨nvn, kvn, rfl, d⟩, l⟩; refine Or.inl ⟨_, rfl, ?_⟩; obtain ⟨Ann, cnn, rfl, _⟩ := Kd.Q_slice d.1; obtain ⟨Akn, ckn, rfl, _⟩ := Kd.Q_slice d.2; have e : Fr (fun _ => False) z D := Fr.of_below l; replace j := j.f0 e; replace o := o.l0 e; replace i := i.n0 e; replace b := b.b0 e; replace Z := Z.k e; have v := Aside0.mk (d.mono (T := fun k => z.heap.size ≤ k ∧ k < D.heap.size) (fun k q r => ⟨q, r⟩)); clear e d l; clear c; have c := b.e6))
 have t := b.s6 (.int .i64 x.kind) (.string x.text) (.int .i64 x.place) (.int .i64 x.n) (.slice Ann x.names.length cnn) (.slice Akn x.kids.length ckn)
 clear b
 obtain ⟨M, m, e, b⟩ := t
 rw [m]
 clear m
 have A := Z.out
 replace j := j.f1 e (by omega)
 replace o := o.l1 e (fun k hk => by omega)
 replace i := i.n1 e (fun k hk => by omega)
 replace v := v.n1 e (fun k hk => by omega)
 clear A
 replace Z := Z.k e
 clear e
 clear c
 have c := b.e6
 refine bodyPost_ret (results_t4 rfl _ _ _) rfl ?_
 exact ⟨none, 0, by rw [hre]; rfl, by rw [hre]; exact Kd.R_nil _ _ _ _ _, j.out.below (Below.refl _ _) (fun k h => h) (Nat.le_refl _)⟩
theorem law_resolved.goodM {s : ByteArray} {x x0 : SP.Nd} {p y p0 y0 : Int} {slots : List ByteArray} {As : Option Addr} {cs : Nat} (w : World) (h10 : ∀ w, Calls Try.prog 10 #[.string s] w (NodeA x0 p0 y0 w)) (h11 : ∀ w, Calls Try.prog 11 #[.string s] w (NodeA x p y w)) (hs : SL (fun k => k < w.heap.size) w As cs slots) (hcn : SP.cnt x ≤ 1073741824) (hy : (y != 0) = false) :
  Calls Try.prog 6 #[.string s, .bool true, .slice As slots.length cs] w (RsA (resolvedS x y slots) w) := by
 have hu36 := Try.underlying36
 have hre : resolvedS x y slots = ofW (SP.resolve slots x) := by unfold resolvedS; rw [if_pos (by simpa using hy)]
 have m := Aside0.mk (Fr.refl (fun k => w.heap.size ≤ k) w)
 have o := Aside0.mk hs
 have Z := Aside0.mk (Nat.le_refl w.heap.size)
 clear hs
 go_enter Try.func6, Try.ntmps6
 go_wp2_with (first
  | ((with_reducible refine gate_dst (N := 18) rfl ?_); apply goE 18 Try.func10 (h10 w); rintro J M ⟨v_, rfl, ⟨nva, kva, rfl, i⟩, l⟩; refine Or.inl ⟨_, rfl, ?_⟩; obtain ⟨Ana, cna, rfl, _⟩ := Kd.Q_slice i.1; obtain ⟨Aka, cka, rfl, _⟩ := Kd.Q_slice i.2; have e : Fr (fun _ => False) w M := Fr.of_below l; replace m := m.f0 e; replace o := o.l0 e; replace Z := Z.k e; have j := Aside0.mk (i.mono (T := fun k => w.heap.size ≤ k ∧ k < M.heap.size) (fun k u q => ⟨u, q⟩)); clear e i l)
  | ((with_reducible refine gate_dst (N := 10) rfl ?_); apply boxE 10 #[.int .i64 0, .string ⟨#[]⟩, .int .i64 0, .int .i64 0, .slice none 0 0, .slice none 0 0] 36; intro U Y b e B; replace m := m.f0 e; replace o := o.l0 e; replace j := j.n0 e; replace Z := Z.a B; clear B e; have d := b.e6)
  | ((with_reducible refine gate_dst (N := 25) rfl ?_); have v := b.s6 (.int .i64 x0.kind) (.string x0.text) (.int .i64 x0.place) (.int .i64 x0.n) (.slice Ana x0.names.length cna) (.slice Aka x0.kids.length cka); clear b; obtain ⟨I, r, e, b⟩ := v; rw [r]; clear r; have D := Z.out; replace m := m.f1 e (by omega); replace o := o.l1 e (fun k hk => by omega); replace j := j.n1 e (fun k hk => by omega); clear D; replace Z := Z.k e; clear e; clear d; have d := b.e6; apply goE 25 Try.func11 (h11 I); rintro J O ⟨v_, rfl, ⟨nvn, kvn, rfl, i⟩, l⟩; refine Or.inl ⟨_, rfl, ?_⟩; obtain ⟨Ann, cnn, rfl, _⟩ := Kd.Q_slice i.1; obtain ⟨Akn, ckn, rfl, _⟩ := Kd.Q_slice i.2; have e : Fr (fun _ => False) I O := Fr.of_below l; replace m := m.f0 e; replace o := o.l0 e; replace j := j.n0 e; replace b := b.b0 e; replace Z := Z.k e; have t := Aside0.mk (i.mono (T := fun k => I.heap.size ≤ k ∧ k < O.heap.size) (fun k u q => ⟨u, q⟩)); clear e i l; clear d; have d := b.e6)
  | ((with_reducible refine gate_dst (N := 35) rfl ?_); have v := b.s6 (.int .i64 x.kind) (.string x.text) (.int .i64 x.place) (.int .i64 x.n) (.slice Ann x.names.length cnn) (.slice Akn x.kids.length ckn); clear b; obtain ⟨G, r, e, b⟩ := v; rw [r]; clear r; have D := Z.out; replace m := m.f1 e (by omega); replace o := o.l1 e (fun k hk => by omega); replace j := j.n1 e (fun k hk => by omega); replace t := t.n1 e (fun k hk => by omega); clear D; replace Z := Z.k e; clear e; clear d; have d := b.e6; apply goE 35 Try.func12 (scope_resolve.calls (x := x) (slots := slots) G (SL.mono o.out (fun k (hk : k < w.heap.size) _ => (show k < G.heap.size from by have D := Z.out; omega))) (t.out.mono (fun k hk q => q)) hcn); rintro J V z; replace z := z.rs; obtain ⟨A, c, rfl, hu_, l⟩ := z; refine Or.inl ⟨_, rfl, ?_⟩; have e : Fr (fun _ => False) G V := Fr.of_below l; replace m := m.f0 e; replace o := o.l0 e; replace j := j.n0 e; replace b := b.b0 e; replace t := t.n0 e; replace Z := Z.k e; have W := Aside0.mk hu_; clear e hu_ l; clear d; have d := b.e6))
 refine bodyPost_ret (results_t4 rfl _ _ _) rfl ?_
 refine ⟨A, c, by rw [hre, ofW_ok]; rfl, by rw [hre]; exact R_mono' W.out (fun k (hk : G.heap.size ≤ k) _ => (show w.heap.size ≤ k from by have D := Z.out; omega)), m.out.below (Below.refl _ _) (fun k h => h) (Nat.le_refl _)⟩
theorem law_resolved.plain {s : ByteArray} {slots : List ByteArray} {As : Option Addr} {cs : Nat} {x : SP.Nd} {p y : Int} (h10 : ∀ w, Calls Try.prog 10 #[.string s] w (NodeA x p y w)) (hcn : SP.cnt x ≤ 1073741824) (w : World) (hs : SL (fun k => k < w.heap.size) w As cs slots) : Calls Try.prog 6 #[.string s, .bool false, .slice As slots.length cs] w (RsA (resolvedS x y slots) w) := by
 cases hy : (y != 0) with
 | true => exact law_resolved.bad w h10 hs hcn hy
 | false => exact law_resolved.good w h10 hs hcn hy
theorem law_resolved.meth {s : ByteArray} {slots : List ByteArray} {As : Option Addr} {cs : Nat} {x0 x : SP.Nd} {p0 y0 p y : Int} (h10 : ∀ w, Calls Try.prog 10 #[.string s] w (NodeA x0 p0 y0 w)) (h11 : ∀ w, Calls Try.prog 11 #[.string s] w (NodeA x p y w)) (hcn : SP.cnt x ≤ 1073741824) (w : World) (hs : SL (fun k => k < w.heap.size) w As cs slots) : Calls Try.prog 6 #[.string s, .bool true, .slice As slots.length cs] w (RsA (resolvedS x y slots) w) := by
 cases hy : (y != 0) with
 | true => exact law_resolved.badM w h10 h11 hs hcn hy
 | false => exact law_resolved.goodM w h10 h11 hs hcn hy
end Go.Proofs.Ytpodpmjlkbbkoaa.P
