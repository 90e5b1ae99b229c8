import Derived.Test.YtpodpmjlkbbkoaaProg
import Derived.Below
import Derived.Deep.Draws
import Derived.Deep.AppendLies
import Derived.Maps.AppendAt
import Derived.OwnWalk
import Derived.Laws.BytesArg
import Derived.Laws.MakeOwn
import Derived.Laws.OwnMore
import Derived.Deep.OwnRows
import Derived.Tactics
import Derived.Lib.ConvBytes
import Derived.Laws.Slices
import Derived.WalkKit
import Derived.KernelRfl
import Derived.RowKit3
import Derived.Deep.LoopGhost
import Derived.Deep.QuietTactic
import Derived.BigQuiet
import Derived.WideLaws
import Derived.Deep.DeepCutAuto
import Derived.Deep.CutBlock
import Derived.Deep.RegionHeld3
import Derived.Laws.Rows
import Derived.Lib.AppendStr
import Derived.ArgAppend
import Derived.Laws.IdiomCopy
import Derived.OrdersHeld
import Derived.Laws.BitsLemmas
import Derived.RowKit
import Derived.Test.YtpodpmjlkbbkoaaQCWMore
import Derived.WalkSmall
set_option linter.all false
namespace Go.Proofs.Ytpodpmjlkbbkoaa.P
open Go.RowKit Go.Proofs.YtpodpmjlkbbkoaaW.PrintWords Go.Proofs.YtpodpmjlkbbkoaaW.PrintLast Go.Proofs.YtpodpmjlkbbkoaaW.PrintMore
attribute [local go_sem] max2_int min2_int max_two min_two max_three min_three max_four min_four   -- for this text's walks alone
def errW : Option Int → Value
 | none => .nilIface
 | some c => .iface 0 (.int .i64 c)
theorem info5 : (Try.prog.info? 5).map (fun i => (i.zero, i.size, i.bytes)) = some (some (.int .u8 0), 1, 1) := by kernel_rfl
theorem info64 : (Try.prog.info? 64).map (fun i => (i.zero, i.size, i.bytes)) = some (some (.agg #[(.int .i64 0), (.string ⟨#[]⟩), (.int .i64 0)]), 3, 32) := by kernel_rfl
theorem info105 : (Try.prog.info? 105).map (fun i => (i.zero, i.size, i.bytes)) = some (some (.int .u32 0), 1, 4) := by kernel_rfl
structure S28 where
 f0 : Int
 f1 : ByteArray
 f2 : Int
def z28 : S28 := ⟨(0 : Int), (⟨#[]⟩ : ByteArray), (0 : Int)⟩
def k28 : Kd S28 := Kd.iso (Kd.pair (Kd.int .i64) (Kd.pair Kd.string (Kd.int .i64))) (fun x : S28 => (x.f0, x.f1, x.f2))
theorem k28_open {w : World} {x : S28} {cs : List Value} (h : k28.K w x cs) : cs = [.int .i64 x.f0, .string x.f1, .int .i64 x.f2] := by
 obtain ⟨_, _, rfl, rfl, ⟨_, _, rfl, rfl, rfl⟩⟩ := h
 exact rfl
theorem k28_mkM (w : World) (base : Nat) (ok : Nat → Prop) (x : S28)  : k28.M w base ok x [.int .i64 x.f0, .string x.f1, .int .i64 x.f2] := ⟨[.int .i64 x.f0], [.string x.f1, .int .i64 x.f2], rfl, rfl, ⟨[.string x.f1], [.int .i64 x.f2], rfl, rfl, rfl⟩⟩
def rd_T28 (xs : List S28) (i : Int) : S28 := xs.getD i.toNat z28
theorem at_T28 {w : World} {A : Option Addr} {n : Nat} {xs : List S28} (h : Kd.C k28 w A n xs) (i : Int) (h0 : 0 ≤ i) (h1 : i < n) : ∃ ad , A = some ad ∧ w.cell? (ad.add (i.toNat * 3)) = some (.int .i64 (rd_T28 xs i).f0) ∧ w.cell? ⟨(ad.add (i.toNat * 3)).block, (ad.add (i.toNat * 3)).off + 1, none⟩ = some (.string (rd_T28 xs i).f1) ∧ w.cell? ⟨(ad.add (i.toNat * 3)).block, (ad.add (i.toNat * 3)).off + 2, none⟩ = some (.int .i64 (rd_T28 xs i).f2) := by
 obtain ⟨ad, c, e, _, hK, hc0⟩ := Kd.C_get h z28 i h0 h1
 have hc : ∀ j u, c[j]? = some u → w.cell? (ad.add (i.toNat * 3 + j)) = some u := hc0
 obtain rfl := k28_open hK
 exact ⟨ad, e, hc 0 _ rfl, by rw [← add_field _ _ 1 (by omega)]; exact hc 1 _ rfl, by rw [← add_field _ _ 2 (by omega)]; exact hc 2 _ rfl⟩
structure S44 where
 f0 : Int
 f1 : ByteArray
 f2 : Int
def z44 : S44 := ⟨(0 : Int), (⟨#[]⟩ : ByteArray), (0 : Int)⟩
def k44 : Kd S44 := Kd.iso (Kd.pair (Kd.int .i64) (Kd.pair Kd.string (Kd.int .i64))) (fun x : S44 => (x.f0, x.f1, x.f2))
def rd_T44 (xs : List S44) (i : Int) : S44 := xs.getD i.toNat z44
end Go.Proofs.Ytpodpmjlkbbkoaa.P
namespace Go.Proofs.Ytpodpmjlkbbkoaa.P
namespace SP
abbrev Tk := S28
inductive Nd where
 | mk (kind : Int) (text : ByteArray) (place n : Int) (names : List ByteArray) (kids : List Nd) : Nd
namespace Nd
def kind : Nd → Int | mk k _ _ _ _ _ => k
def text : Nd → ByteArray | mk _ t _ _ _ _ => t
def place : Nd → Int | mk _ _ p _ _ _ => p
def n : Nd → Int | mk _ _ _ n _ _ => n
def names : Nd → List ByteArray | mk _ _ _ _ ns _ => ns
def kids : Nd → List Nd | mk _ _ _ _ _ ks => ks
end Nd
def E : ByteArray := ⟨#[]⟩
abbrev PR (α : Type) := Option (Except (Int × Int) (α × List Tk))
def hk : List Tk → Int
 | [] => -1
 | t :: _ => t.f0
def tl : List Tk → List Tk
 | [] => []
 | t :: l => if t.f0 = 0 then t :: l else l
def top {α : Type} (l : List Tk) (f : Tk → PR α) : PR α := match l with
 | [] => none
 | t :: _ => f t
def bad {α : Type} (l : List Tk) (why : Int) : PR α := top l fun t => some (.error (t.f2, why))
def bind {α β : Type} (x : PR α) (f : α → List Tk → PR β) : PR β := match x with
 | none => none
 | some (.error e) => some (.error e)
 | some (.ok (a, l)) => f a l
def ret {α : Type} (a : α) (l : List Tk) : PR α := some (.ok (a, l))
def need (k : Int) (l : List Tk) : PR Tk := top l fun t => if t.f0 = k then ret t (tl l) else bad l 20
def within {α : Type} (d : Int) (l : List Tk) (f : Int → List Tk → PR α) : PR α := if d = 40 then bad l 3 else f (d + 1) (tl l)
def namesWhile : List Tk → List ByteArray → List ByteArray × List Tk
 | [], acc => (acc, [])
 | t :: l, acc => if t.f0 = 1 then namesWhile l (acc ++ [t.f1]) else (acc, t :: l)
def temps (ns : List ByteArray) (l : List Tk) : PR (List ByteArray) :=
 if hk l = 12 then (let r := namesWhile (tl l) ns; bind (need 12 r.2) fun _ l2 => ret r.1 l2) else ret ns l
def sTrue : ByteArray := ⟨#[116, 114, 117, 101]⟩
def sFalse : ByteArray := ⟨#[102, 97, 108, 115, 101]⟩
def sNil : ByteArray := ⟨#[110, 105, 108]⟩
def args : Nat → List Tk → List ByteArray → PR (List ByteArray)
 | 0, _, _ => none
 | k + 1, l, ns => top l fun u => if u.f0 = 16 then bind (need 1 (tl l)) fun t l2 => args k l2 (ns ++ [t.f1]) else ret ns l
mutual
def expr : Nat → Int → List Tk → PR Nd
 | 0, _, _ => none
 | k + 1, d, l => top l fun t => if t.f0 = 1 then (match l.drop 1 with
   | [] => none
   | u :: r => if u.f0 = 7 then within d (u :: r) fun d2 l2 => bind (expr k d2 l2) fun e l3 => ret (.mk 6 t.f1 t.f2 0 [] [e]) l3 else casc k d l) else casc k d l
def casc : Nat → Int → List Tk → PR Nd
 | 0, _, _ => none
 | k + 1, d, l => bind (keyed k d l) fun np l2 =>
  top l2 fun u => if u.f0 = 15 then (if np.1.kind = 7 ∧ np.2 = true then (match np.1.kids with
    | [] => none
    | rcv :: r => bind (cascs k d l2 [rcv, .mk 9 np.1.text np.1.place 0 [] r]) fun ks l3 => ret (.mk 8 E np.1.place 0 [] ks) l3)
   else bad l2 20) else ret np.1 l2
def cascs : Nat → Int → List Tk → List Nd → PR (List Nd)
 | 0, _, _, _ => none
 | k + 1, d, l, ks => top l fun u => if u.f0 = 15 then bind (msg k d (tl l)) fun m l2 => cascs k d l2 (ks ++ [m]) else ret ks l
def msg : Nat → Int → List Tk → PR Nd
 | 0, _, _ => none
 | k + 1, d, l => top l fun t =>
  if t.f0 = 1 then ret (.mk 9 t.f1 t.f2 0 [] []) (tl l)
  else if t.f0 = 3 then bind (unary k d (tl l)) fun np l2 => ret (.mk 9 t.f1 t.f2 0 [] [np.1]) l2
  else if t.f0 = 2 then bind (keys k d l E []) fun tk l2 => ret (.mk 9 tk.1 t.f2 0 [] tk.2) l2
  else bad l 20
def keys : Nat → Int → List Tk → ByteArray → List Nd → PR (ByteArray × List Nd)
 | 0, _, _, _, _ => none
 | k + 1, d, l, tx, ks => top l fun t => if t.f0 = 2 then bind (binary k d (tl l)) fun np l2 => keys k d l2 (tx ++ t.f1) (ks ++ [np.1]) else ret (tx, ks) l
def sent : Nat → Int → Nd → List Tk → PR Nd
 | 0, _, _, _ => none
 | k + 1, d, rcv, l => bind (msg k d l) fun m l2 => ret (.mk 7 m.text m.place 0 [] (rcv :: m.kids)) l2
def keyed : Nat → Int → List Tk → PR (Nd × Bool)
 | 0, _, _ => none
 | k + 1, d, l => bind (binary k d l) fun np l2 => top l2 fun u => if u.f0 = 2 then bind (sent k d np.1 l2) fun m l3 => ret (m, true) l3 else ret np l2
def binary : Nat → Int → List Tk → PR (Nd × Bool)
 | 0, _, _ => none
 | k + 1, d, l => bind (unary k d l) fun np l2 => chain k d 3 np l2
def unary : Nat → Int → List Tk → PR (Nd × Bool)
 | 0, _, _ => none
 | k + 1, d, l => bind (prim k d l) fun np l2 => chain k d 1 np l2
def chain : Nat → Int → Int → Nd × Bool → List Tk → PR (Nd × Bool)
 | 0, _, _, _, _ => none
 | k + 1, d, kd, np, l => top l fun u => if u.f0 = kd then bind (sent k d np.1 l) fun m l2 => chain k d kd (m, true) l2 else ret np l
def prim : Nat → Int → List Tk → PR (Nd × Bool)
 | 0, _, _ => none
 | k + 1, d, l => top l fun t =>
  if t.f0 = 1 then ret (.mk 5 t.f1 t.f2 0 [] [], true) (tl l)
  else if t.f0 = 4 then ret (.mk 1 t.f1 t.f2 0 [] [], true) (tl l)
  else if t.f0 = 5 then ret (.mk 2 t.f1 t.f2 0 [] [], true) (tl l)
  else if t.f0 = 6 then ret (.mk 3 t.f1 t.f2 0 [] [], true) (tl l)
  else if t.f0 = 17 then bind (list k d l) fun n l2 => ret (n, true) l2
  else if t.f0 = 10 then bind (block k d l) fun n l2 => ret (n, true) l2
  else if t.f0 = 8 then within d l fun d2 l2 => bind (expr k d2 l2) fun n l3 => bind (need 9 l3) fun _ l4 => ret (n, false) l4
  else bad l 20
def list : Nat → Int → List Tk → PR Nd
 | 0, _, _ => none
 | k + 1, d, l => top l fun t => within d l fun d2 l2 => bind (elems k d2 l2 []) fun ks l3 => ret (.mk 4 E t.f2 0 [] ks) (tl l3)
def elems : Nat → Int → List Tk → List Nd → PR (List Nd)
 | 0, _, _, _ => none
 | k + 1, d, l, ks => if hk l = 9 then ret ks l else bind (elem k d l) fun n l2 => elems k d l2 (ks ++ [n])
def elem : Nat → Int → List Tk → PR Nd
 | 0, _, _ => none
 | k + 1, d, l => top l fun t =>
  if t.f0 = 17 ∨ t.f0 = 8 then list k d l
  else if t.f0 = 4 then ret (.mk 1 t.f1 t.f2 0 [] []) (tl l)
  else if t.f0 = 5 then ret (.mk 2 t.f1 t.f2 0 [] []) (tl l)
  else if t.f0 = 1 then ret (.mk (if t.f1 = sTrue ∨ t.f1 = sFalse ∨ t.f1 = sNil then 13 else 3) t.f1 t.f2 0 [] []) (tl l)
  else if t.f0 = 6 ∨ t.f0 = 2 ∨ t.f0 = 3 then ret (.mk 3 t.f1 t.f2 0 [] []) (tl l)
  else bad l 20
def block : Nat → Int → List Tk → PR Nd
 | 0, _, _ => none
 | k + 1, d, l => top l fun t => within d l fun d2 l2 => bind (args k l2 []) fun ns l3 =>
  bind (if ns ≠ [] ∧ hk l3 ≠ 11 then bind (need 12 l3) fun _ l4 => ret () l4 else ret () l3) fun _ l4 =>
  bind (body k d2 11 l4 ns) fun nk l5 => ret (.mk 10 E t.f2 ns.length nk.1 nk.2) (tl l5)
def body : Nat → Int → Int → List Tk → List ByteArray → PR (List ByteArray × List Nd)
 | 0, _, _, _, _ => none
 | k + 1, d, e, l, ns => bind (temps ns l) fun ns2 l2 => bind (stmts k d e l2 []) fun ks l3 => ret (ns2, ks) l3
def stmts : Nat → Int → Int → List Tk → List Nd → PR (List Nd)
 | 0, _, _, _, _ => none
 | k + 1, d, e, l, ks => if hk l = e then ret ks l else bind (stmt k d l) fun nl l2 =>
  if hk l2 = 14 then (if nl.2 = true then (if hk (tl l2) = e then ret (ks ++ [nl.1]) (tl l2) else bad (tl l2) 20) else stmts k d e (tl l2) (ks ++ [nl.1]))
  else (if hk l2 = e then ret (ks ++ [nl.1]) l2 else bad l2 20)
def stmt : Nat → Int → List Tk → PR (Nd × Bool)
 | 0, _, _ => none
 | k + 1, d, l => if hk l = 13 then top l fun t => bind (expr k d (tl l)) fun n l2 => ret (.mk 11 E t.f2 0 [] [n], true) l2 else bind (expr k d l) fun n l2 => ret (n, false) l2
end
def keyArgs : Nat → List Tk → ByteArray → List ByteArray → PR (ByteArray × List ByteArray)
 | 0, _, _, _ => none
 | k + 1, l, tx, ns => top l fun t => if t.f0 = 2 then bind (need 1 (tl l)) fun a l2 => keyArgs k l2 (tx ++ t.f1) (ns ++ [a.f1]) else ret (tx, ns) l
def pattern (k : Nat) (l : List Tk) : PR (ByteArray × List ByteArray) := top l fun t =>
 if t.f0 = 1 then ret (t.f1, []) (tl l)
 else if t.f0 = 3 then bind (need 1 (tl l)) fun a l2 => ret (t.f1, [a.f1]) l2
 else if t.f0 = 2 then bind (need 1 (tl l)) fun a l2 => keyArgs k l2 t.f1 [a.f1]
 else bad l 20
def unit (k : Nat) (method : Bool) (l : List Tk) : PR Nd :=
 bind (if method = true then pattern k l else ret (E, []) l) fun ta l2 => bind (body k 0 0 l2 ta.2) fun nk l3 => ret (.mk 12 ta.1 0 ta.2.length nk.1 nk.2) l3
structure Use where
 place : Int
 name : ByteArray
 kind : Int
 depth : Int
 index : Int
 write : Bool
def sSelf : ByteArray := ⟨#[115, 101, 108, 102]⟩
def sSuper : ByteArray := ⟨#[115, 117, 112, 101, 114]⟩
def fixed (s : ByteArray) : Option (Int × Int) := if s = sSelf then some (0, 0) else if s = sSuper then some (1, 0) else if s = sNil then some (2, 0) else if s = sFalse then some (2, 1) else if s = sTrue then some (2, 2) else none
abbrev Fr := List ByteArray × Int
def idx (s : ByteArray) : List ByteArray → Nat → Option Nat
 | [], _ => none
 | x :: l, i => if x = s then some i else idx s l (i + 1)
def inFrames (s : ByteArray) : List Fr → Nat → Option (Nat × Nat × Bool)
 | [], _ => none
 | f :: r, d => match idx s f.1 0 with
  | some i => some (d, i, decide ((i : Int) < f.2))
  | none => inFrames s r (d + 1)
def find (slots : List ByteArray) (s : ByteArray) (fs : List Fr) : Use × Bool := match fixed s with
 | some (k, i) => (⟨0, s, k, 0, i, false⟩, false)
 | none => match inFrames s fs 0 with
  | some (d, i, a) => (⟨0, s, 3, d, i, false⟩, a)
  | none => match idx s slots 0 with
   | some i => (⟨0, s, 4, 0, i, false⟩, false)
   | none => (⟨0, s, if 0 < s.size ∧ 65 ≤ s.data.getD 0 0 ∧ s.data.getD 0 0 ≤ 90 then 5 else -1, 0, 0, false⟩, false)
abbrev W := Except Int (List Use)
def okNames : List ByteArray → List ByteArray → Bool
 | _, [] => true
 | seen, x :: l => (fixed x).isNone && !(seen.contains x) && okNames (seen ++ [x]) l
mutual
def part (slots : List ByteArray) (fs : List Fr) (rcv : Bool) (acc : List Use) : Nd → W
 | .mk kind text place n names kids =>
  if kind = 5 then (let u := (find slots text fs).1; if u.kind = -1 ∨ u.kind = 1 ∧ rcv = false then .error place else .ok (acc ++ [{ u with place := place }]))
  else if kind = 6 then (let u := find slots text fs; if u.2 = true ∨ u.1.kind ≠ 3 ∧ u.1.kind ≠ 4 then .error place else parts slots fs false (acc ++ [{ u.1 with place := place, write := true }]) kids)
  else if kind = 10 then (if okNames [] names = true then parts slots ((names, n) :: fs) false acc kids else .error place)
  else parts slots fs (kind = 7 ∨ kind = 8) acc kids
def parts (slots : List ByteArray) (fs : List Fr) (first : Bool) (acc : List Use) : List Nd → W
 | [] => .ok acc
 | k :: ks => match part slots fs first acc k with
  | .error e => .error e
  | .ok acc2 => parts slots fs false acc2 ks
end
def resolve (slots : List ByteArray) (nd : Nd) : W := if okNames [] nd.names = true then parts slots [(nd.names, nd.n)] false [] nd.kids else .error nd.place
end SP
end Go.Proofs.Ytpodpmjlkbbkoaa.P
namespace Go.Proofs.Ytpodpmjlkbbkoaa.P
open Go.RowKit Go.Proofs.YtpodpmjlkbbkoaaW.PrintWords Go.Proofs.YtpodpmjlkbbkoaaW.PrintLast Go.Proofs.YtpodpmjlkbbkoaaW.PrintMore
def rowq {α : Type} (e : Nat) (d : Kd α) : Kd (List α) where
 sz := 1
 E := e :: d.E
 K := fun w xs cs => ∃ A c, cs = [.slice A xs.length c] ∧ xs.length ≤ c ∧ d.C w A xs.length xs
 M := fun w base ok xs cs => ∃ v, cs = [v] ∧ d.Q e w base ok v xs
 K_len := by
  rintro w x cs ⟨A, c, rfl, _⟩
  rfl
 K_one := by
  rintro w x cs ⟨A, c, rfl, _⟩ u hu
  rw [List.mem_singleton.1 hu]
  rfl
 K_below := by
  rintro w w1 x cs hb ⟨A, c, rfl, hl, hr⟩
  exact ⟨A, c, rfl, hl, Kd.C_below hr hb⟩
 K_of_M := by
  rintro w base ok x cs ⟨v, rfl, h⟩
  obtain ⟨A, c, rfl, hl, hr⟩ := Kd.Q_reads h
  exact ⟨A, c, rfl, hl, hr⟩
 M_mono := by
  rintro w base ok ok' x cs hok ⟨v, rfl, h⟩
  exact ⟨v, rfl, Kd.Q_mono h hok⟩
 M_bound := by
  rintro w base ok x cs ⟨v, rfl, h⟩
  exact ⟨v, rfl, Kd.Q_bound h⟩
 M_move := by
  rintro w w1 base ok x cs hm ⟨v, rfl, h⟩
  exact ⟨v, rfl, Kd.Q_move h hm⟩
 M_lower := by
  rintro w base base' ok x cs hb ⟨v, rfl, h⟩
  exact ⟨v, rfl, Kd.Q_lower h hb⟩
section
variable {α : Type} {F : Kd α → Kd α} {sz : Nat} {E : List Nat} {hs : ∀ n, (Kd.upto F sz E n).sz = sz} {hE : ∀ n q, q ∈ (Kd.upto F sz E n).E → q ∈ E}
theorem Q_imp {d d' : Kd α} (hs : d.sz = d'.sz) (h : ∀ w base ok x cs, d.M w base ok x cs → d'.M w base ok x cs) {e : Nat} {w : World} {base : Nat} {ok : Nat → Prop} {v : Value} {xs : List α} (hr : d.Q e w base ok v xs) : d'.Q e w base ok v xs := by
 unfold Kd.Q at hr ⊢
 rw [← hs]
 obtain ⟨h0, inner, hq, hp⟩ := hr
 exact ⟨h0, inner, hq, hp.imp_ (fun _ _ hp => h _ _ _ _ _ hp)⟩
theorem mono_rowq {β : Type} (e : Nat) {G : Kd α → Kd β} (hG : Kd.Mono G) : Kd.Mono (fun d => rowq e (G d)) := by
 refine ⟨fun _ _ _ => rfl, ?_, ?_⟩
 ·rintro d d' hs h w x cs ⟨A, c, rfl, hl, hr⟩
  exact ⟨A, c, rfl, hl, Kd.C_imp (hG.sz d d' hs) (hG.K d d' hs h) hr⟩
 ·rintro d d' hs h w base ok x cs ⟨v, rfl, hr⟩
  exact ⟨v, rfl, Q_imp (hG.sz d d' hs) (hG.M d d' hs h) hr⟩
theorem sub_rowq {β : Type} (e : Nat) {G : Kd α → Kd β} (he : e ∈ E) (hG : Kd.Sub G E) : Kd.Sub (fun d => rowq e (G d)) E := fun d h q hq => by
 rcases List.mem_cons.1 hq with rfl | hq
 ·exact he
 ·exact hG d h q hq
theorem fix_Q {n : Nat} {e : Nat} {w : World} {base : Nat} {ok : Nat → Prop} {v : Value} {xs : List α} (h : (Kd.upto F sz E n).Q e w base ok v xs) : (Kd.fix F sz E hs hE).Q e w base ok v xs := Q_imp (d' := Kd.fix F sz E hs hE) (hs n) (fun w base ok x cs hp => (⟨n, hp⟩ : ∃ n, (Kd.upto F sz E n).M w base ok x cs)) h
theorem fix_Q_back (hm : Kd.Mono F) {e : Nat} {w : World} {base : Nat} {ok : Nat → Prop} {v : Value} {xs : List α} (h : (Kd.fix F sz E hs hE).Q e w base ok v xs) : ∃ n, (Kd.upto F sz E n).Q e w base ok v xs := by
 obtain ⟨h0, inner, ho, hr⟩ := h
 obtain ⟨N, hN⟩ := Kd.reps_bounded (R := fun n p c => (Kd.upto F sz E n).M w base (fun k => ok k ∧ some k ≠ v.ownBlock) p c) (fun n m p c hnm hp => Kd.upto_M_le hm hs hnm hp) hr
 refine ⟨N, h0, inner, ?_, ?_⟩
 ·rw [hs N]; exact ho
 ·rw [hs N]; exact hN
end
def FNd (d : Kd SP.Nd) : Kd SP.Nd := Kd.iso (Kd.pair (Kd.int .i64) (Kd.pair Kd.string (Kd.pair (Kd.int .i64) (Kd.pair (Kd.int .i64) (Kd.pair (rowq 9 Kd.string) (rowq 36 d)))))) (fun x => (x.kind, x.text, x.place, x.n, x.names, x.kids))
theorem FNd_mono : Kd.Mono FNd := Kd.mono_iso _ (Kd.mono_pair (Kd.mono_const _) (Kd.mono_pair (Kd.mono_const _) (Kd.mono_pair (Kd.mono_const _) (Kd.mono_pair (Kd.mono_const _) (Kd.mono_pair (Kd.mono_const _) (mono_rowq 36 Kd.mono_id))))))
theorem FNd_sub : Kd.Sub FNd [9, 36] := Kd.sub_iso _ (Kd.sub_pair (Kd.sub_const _ (fun q hq => by cases hq)) (Kd.sub_pair (Kd.sub_const _ (fun q hq => by cases hq)) (Kd.sub_pair (Kd.sub_const _ (fun q hq => by cases hq)) (Kd.sub_pair (Kd.sub_const _ (fun q hq => by cases hq)) (Kd.sub_pair (Kd.sub_const _ (fun q hq => by simp [rowq] at hq; rcases hq with rfl | hq; simp; cases hq)) (sub_rowq 36 (by simp) Kd.sub_id))))))
def kNd : Kd SP.Nd := Kd.fix FNd 6 [9, 36] (Kd.upto_sz (fun _ => rfl)) (Kd.upto_E FNd_sub)
def NdV (S : Nat → Prop) (w : World) (x : SP.Nd) (cs : List Value) : Prop := ∃ nv kv, cs = [.int .i64 x.kind, .string x.text, .int .i64 x.place, .int .i64 x.n, nv, kv] ∧ Kd.string.Q 9 w 0 S nv x.names ∧ kNd.Q 36 w 0 S kv x.kids
theorem kNd_M {S : Nat → Prop} {w : World} {x : SP.Nd} {cs : List Value} : kNd.M w 0 S x cs ↔ NdV S w x cs := by
 constructor
 ·rintro ⟨n, h⟩
  cases n with
  | zero => exact h.elim
  | succ n =>
   obtain ⟨_, _, rfl, rfl, _, _, rfl, rfl, _, _, rfl, rfl, _, _, rfl, rfl, _, _, rfl, ⟨nv, rfl, hn⟩, ⟨kv, rfl, hk⟩⟩ := h
   exact ⟨nv, kv, rfl, hn, fix_Q hk⟩
 ·rintro ⟨nv, kv, rfl, hn, hk⟩
  obtain ⟨n, hk⟩ := fix_Q_back FNd_mono hk
  exact ⟨n + 1, [_], _, rfl, rfl, [_], _, rfl, rfl, [_], _, rfl, rfl, [_], _, rfl, rfl, [nv], [kv], rfl, ⟨nv, rfl, hn⟩, ⟨kv, rfl, hk⟩⟩
def Fr (S : Nat → Prop) (w w' : World) : Prop := Below 0 w w' ∧ Kept w w' S
section
variable {S S2 : Nat → Prop} {w w' w2 : World}
theorem Fr.refl (S : Nat → Prop) (w : World) : Fr S w w := ⟨Below.refl _ _, Kept.refl _ _⟩
theorem Fr.then_ (h : Fr S w w') (k : Fr S2 w' w2) (hs : ∀ k, S2 k → S k ∨ w.heap.size ≤ k) : Fr S w w2 := ⟨h.1.trans k.1, h.2.then_ k.2 hs⟩
theorem Fr.drew (h : Fr S w w') : Fr S w w'.drew := ⟨below_drew h.1, h.2⟩
theorem Fr.drewN (h : Fr S w w') (n : Nat) : Fr S w (w'.drewN n) := ⟨pw_below_drewN h.1 n, h.2⟩
theorem Fr.setCell (h : Fr S w w') {p : Addr} (hp : S p.block ∨ w.heap.size ≤ p.block) (u : Value) : Fr S w (w'.setCell p u) := ⟨h.1.setCell (Nat.zero_le _) u, h.2.setCell hp u⟩
theorem Fr.set (h : Fr S w w') {b : Nat} (hp : S b ∨ w.heap.size ≤ b) (j : Nat) (u : Value) : Fr S w (w'.setCell ⟨b, j, none⟩ u) := h.setCell hp u
theorem Fr.grown {row : Option Nat} (h : Fr S w w') (hg : w'.grownBy w2 row) (hr : ∀ k, row = some k → S k ∨ w.heap.size ≤ k) : Fr S w w2 := ⟨h.1.trans ⟨hg.os, hg.tape, hg.output, hg.size, fun k hk => absurd hk (Nat.not_lt_zero k)⟩, Kept.of_grown hg h.2 hr⟩
theorem Fr.mono (h : Fr S w w') (hs : ∀ k, S k → S2 k) : Fr S2 w w' := ⟨h.1, h.2.mono hs⟩
theorem Fr.size (h : Fr S w w') : w.heap.size ≤ w'.heap.size := h.2.1
theorem Fr.of_below (h : Below w.heap.size w w') : Fr S w w' := ⟨h.mono (Nat.zero_le _), Kept.of_below h S⟩
theorem Fr.below {B : Nat} {w0 : World} (h : Fr S w w') (hb : Below B w0 w) (hS : ∀ k, S k → B ≤ k) (hB : B ≤ w.heap.size) : Below B w0 w' :=
 ⟨h.1.os.trans hb.os, h.1.tape.trans hb.tape, h.1.output.trans hb.output, Nat.le_trans hb.size h.1.size, fun k hk => (h.2.2 k (Nat.lt_of_lt_of_le hk hB) (fun hs => by have := hS k hs; omega)).trans (hb.block k hk)⟩
theorem Fr.blk {g : Nat} {o : Obj} (h : Fr S w w') (hb : w.heap[g]? = some o) (hne : ¬ S g) : w'.heap[g]? = some o := blk_kept hb h.2 hne
theorem Fr.Q {α : Type} {d : Kd α} {e base : Nat} {ok : Nat → Prop} {v : Value} {xs : List α} (h : Fr S w w') (hq : d.Q e w base ok v xs) (hne : ∀ k, ok k → ¬ S k) : d.Q e w' base ok v xs := Kd.Q_kept hq h.2 hne
end
theorem Q_mono' {α : Type} {d : Kd α} {e : Nat} {S T : Nat → Prop} {w : World} {v : Value} {xs : List α} (h : d.Q e w 0 S v xs) (hs : ∀ k, S k → k < w.heap.size → T k) : d.Q e w 0 T v xs := Kd.Q_mono (Kd.Q_bound h) (fun k hk => hs k hk.1 hk.2.2.1)
def NQ (S : Nat → Prop) (w : World) (x : SP.Nd) (nv kv : Value) : Prop := Kd.string.Q 9 w 0 S nv x.names ∧ kNd.Q 36 w 0 S kv x.kids
theorem NQ.mono {S T : Nat → Prop} {w : World} {x : SP.Nd} {nv kv : Value} (h : NQ S w x nv kv) (hs : ∀ k, S k → k < w.heap.size → T k) : NQ T w x nv kv := ⟨Q_mono' h.1 hs, Q_mono' h.2 hs⟩
theorem Fr.nq {S T : Nat → Prop} {w w' : World} {x : SP.Nd} {nv kv : Value} (h : Fr S w w') (hq : NQ T w x nv kv) (hne : ∀ k, T k → ¬ S k) : NQ T w' x nv kv := ⟨h.Q hq.1 hne, h.Q hq.2 hne⟩
def NV (S : Nat → Prop) (w : World) (x : SP.Nd) (v : Value) : Prop := ∃ nv kv, v = .agg #[.int .i64 x.kind, .string x.text, .int .i64 x.place, .int .i64 x.n, nv, kv] ∧ NQ S w x nv kv
theorem NQ.M {S : Nat → Prop} {w : World} {x : SP.Nd} {nv kv : Value} (h : NQ S w x nv kv) : kNd.M w 0 S x [.int .i64 x.kind, .string x.text, .int .i64 x.place, .int .i64 x.n, nv, kv] := kNd_M.2 ⟨nv, kv, rfl, h.1, h.2⟩
theorem NQ.none_ (S : Nat → Prop) (w : World) (k : Int) (t : ByteArray) (p n : Int) : NQ S w (.mk k t p n [] []) (.slice none 0 0) (.slice none 0 0) := ⟨Kd.Q_nil _ _ _ _ _, Kd.Q_nil _ _ _ _ _⟩
def nxt (ad : Addr) (c : Nat) : Option Addr := if c = 1 then some ad else some (ad.add 3)
class Low where
 lo : Nat
variable [Low]
def PS (B : Nat) (w : World) (pb : Nat) (l : List S28) (d : Int) : Prop := pb < B ∧ B ≤ w.heap.size ∧ 0 ≤ d ∧ d ≤ 40 ∧ ((∀ t, t ∈ l → t.f1.size ≤ 4096) ∧ l.length ≤ 1073741824 ∧ Low.lo ≤ pb) ∧ ∃ A c, w.heap[pb]? = some (.cells #[.slice A l.length c, .int .i64 d] 61 (0, 0)) ∧ k28.Q 64 w 0 (fun k => k ≠ pb ∧ k < B ∧ Low.lo ≤ k) (.slice A l.length c) l
section
variable {B pb : Nat} {w w' : World} {l : List S28} {d : Int} {S : Nat → Prop}
theorem PS.frL (h : PS B w pb l d) (hf : Fr S w w') (hS : ∀ k, S k → k < Low.lo ∨ B ≤ k) : PS B w' pb l d := by
 obtain ⟨h1, h2, h3, h4, ht, A, c, hb, hq⟩ := h
 exact ⟨h1, Nat.le_trans h2 hf.size, h3, h4, ht, A, c, hf.blk hb (fun hs => by have := hS pb hs; have := ht.2.2; omega), hf.Q hq (fun k hk hs => by have := hS k hs; have := hk.2; omega)⟩
theorem PS.fr (h : PS B w pb l d) (hf : Fr S w w') (hS : ∀ k, S k → B ≤ k) : PS B w' pb l d := h.frL hf (fun k hk => .inr (hS k hk))
theorem PS.lo (h : PS B w pb l d) : Low.lo ≤ pb := h.2.2.2.2.1.2.2
theorem PS.deep (h : PS B w pb l d) (d' : Int) (h5 : 0 ≤ d') (h6 : d' ≤ 40) : PS B (w.setCell ⟨pb, 1, none⟩ (.int .i64 d')) pb l d' := by
 obtain ⟨h1, h2, h3, h4, ht, A, c, hb, hq⟩ := h
 exact ⟨h1, by simpa [World.setCell] using h2, h5, h6, ht, A, c, blk_set hb 1 _, Kd.Q_far hq (fun k hk => hk.1) _⟩
theorem PS.next {t : S28} {ad : Addr} {c : Nat} (h : PS B w pb (t :: l) d) (hb : w.heap[pb]? = some (.cells #[.slice (some ad) (t :: l).length c, .int .i64 d] 61 (0, 0))) : PS B (w.setCell ⟨pb, 0, none⟩ (.slice (nxt ad c) l.length (c - 1))) pb l d := by
 obtain ⟨h1, h2, h3, h4, ht, A', c', hb', hq⟩ := h
 rw [hb] at hb'
 injection hb' with hb'
 injection hb' with hb'
 simp only [Array.mk.injEq, List.cons.injEq, Value.slice.injEq] at hb'
 obtain ⟨⟨rfl, _, rfl⟩, _⟩ := hb'
 refine ⟨h1, by simpa [World.setCell] using h2, h3, h4, ⟨fun t h => ht.1 t (List.mem_cons_of_mem _ h), by have := ht.2.1; simp only [List.length_cons] at this; omega, ht.2.2⟩, _, _, blk_set hb 0 _, ?_⟩
 have hq2 := Kd.Q_far (p := ⟨pb, 0, none⟩) (Kd.Q_drop (k := 1) hq (by simp)) (fun k hk => hk.1) (.slice (nxt ad c) l.length (c - 1))
 have e : nxt ad c = (if c = 1 then some ad else (some ad).map (·.add (1 * k28.sz))) := by
  unfold nxt
  rfl
 rw [← e] at hq2
 exact hq2
theorem PS.text {t : S28} (h : PS B w pb (t :: l) d) : t.f1.size ≤ 4096 := h.2.2.2.2.1.1 t List.mem_cons_self
theorem PS.len (h : PS B w pb l d) : l.length ≤ 1073741824 := h.2.2.2.2.1.2.1
theorem PS.any_ (h : PS B w pb l d) : ∃ A c, w.heap[pb]? = some (.cells #[.slice A l.length c, .int .i64 d] 61 (0, 0)) := by
 obtain ⟨h1, h2, h3, h4, ht, A, c, hb, hq⟩ := h
 exact ⟨A, c, hb⟩
theorem PS.blk_ {t : S28} (h : PS B w pb (t :: l) d) : ∃ ad c, w.heap[pb]? = some (.cells #[.slice (some ad) (t :: l).length c, .int .i64 d] 61 (0, 0)) := by
 obtain ⟨h1, h2, h3, h4, ht, A, c, hb, hq⟩ := h
 obtain ⟨ad, rfl, _⟩ := at_T28 (Kd.Q_reads' hq).2.2 0 (Int.le_refl _) (by simp)
 exact ⟨ad, c, hb⟩
theorem PS.cells_ {t : S28} {ad : Addr} {c n : Nat} {d' : Int} (h : PS B w pb (t :: l) d) (hb' : w.heap[pb]? = some (.cells #[.slice (some ad) n c, .int .i64 d'] 61 (0, 0))) : ad.block < B ∧ ad.block ≠ pb ∧ w.cell? ad = some (.int .i64 t.f0) ∧ w.cell? ⟨ad.block, ad.off + 1, none⟩ = some (.string t.f1) ∧ w.cell? ⟨ad.block, ad.off + 2, none⟩ = some (.int .i64 t.f2) := by
 obtain ⟨h1, h2, _, _, _, A, c', hb, hq⟩ := h
 rw [hb] at hb'
 injection hb' with hb'
 injection hb' with hb'
 simp only [Array.mk.injEq, List.cons.injEq, Value.slice.injEq] at hb'
 obtain ⟨⟨rfl, _, rfl⟩, _⟩ := hb'
 obtain ⟨ad', e, h3, h4, h5⟩ := at_T28 (Kd.Q_reads' hq).2.2 0 (Int.le_refl _) (by simp)
 injection e with e
 subst e
 have h6 := hq.1 ad.block (by simp [Value.ownBlock])
 have hz : ad.add ((0 : Int).toNat * 3) = ad := by simp [Addr.add]
 rw [hz] at h3 h4 h5
 exact ⟨h6.2.1, h6.1, h3, h4, h5⟩
theorem PS.kind1 {t u : S28} {ad : Addr} {c n : Nat} {d' : Int} (h : PS B w pb (t :: u :: l) d) (hb' : w.heap[pb]? = some (.cells #[.slice (some ad) n c, .int .i64 d'] 61 (0, 0))) : w.cell? ⟨ad.block, ad.off + 3, none⟩ = some (.int .i64 u.f0) := by
 obtain ⟨h1, h2, _, _, _, A, c', hb, hq⟩ := h
 rw [hb] at hb'
 injection hb' with hb'
 injection hb' with hb'
 simp only [Array.mk.injEq, List.cons.injEq, Value.slice.injEq] at hb'
 obtain ⟨⟨rfl, _, rfl⟩, _⟩ := hb'
 obtain ⟨ad', e, h3, h4, h5⟩ := at_T28 (Kd.Q_reads' hq).2.2 1 (by decide) (by simp; omega)
 injection e with e
 subst e
 have e3 : ad.add ((1 : Int).toNat * 3) = ⟨ad.block, ad.off + 3, none⟩ := by
  have := add_field ad 0 3 (by decide)
  simpa [Addr.add] using this
 rw [← e3]
 exact h3
end
end Go.Proofs.Ytpodpmjlkbbkoaa.P
set_option maxHeartbeats 16000000
set_option maxRecDepth 100000
namespace Go.Proofs.Ytpodpmjlkbbkoaa.P
open Go.RowKit Go.Proofs.YtpodpmjlkbbkoaaW.PrintWords Go.Proofs.YtpodpmjlkbbkoaaW.PrintLast Go.Proofs.YtpodpmjlkbbkoaaW.PrintMore
variable [Low]
def stopOf (p why : Int) : List PanicEntry := [{ v := .iface 59 (.agg #[.int .i64 p, .int .i64 why]), recovered := false }]
theorem tree_kind.calls {B pb : Nat} {t : S28} {l : List S28} {d : Int} (w : World) (h : PS B w pb (t :: l) d) :
  Calls Try.prog 24 #[.pointer (some ⟨pb, 0, none⟩)] w fun e w' => e = .returned (.int .i64 t.f0) ∧ w' = w := by
 obtain ⟨ad, c, hb⟩ := h.blk_
 obtain ⟨h2, h3, hx0, hx1, hx2⟩ := h.cells_ hb
 have hc0 := (blk_cell hb 0).trans rfl
 have hl : (0 : Int) < ((t :: l).length : Int) := by simp
 go_enter Try.func24, Try.ntmps24
 go_wp2
 go_ret
 exact ⟨rfl, rfl⟩
theorem tree_bad.calls {B pb : Nat} {t : S28} {l : List S28} {d : Int} (w : World) (h : PS B w pb (t :: l) d) (why : Int) :
  Calls Try.prog 34 #[.pointer (some ⟨pb, 0, none⟩), .int .i64 why] w fun e w' => e = .panicked (stopOf t.f2 why) ∧ w' = w := by
 obtain ⟨ad, c, hb⟩ := h.blk_
 obtain ⟨h2, h3, hx0, hx1, hx2⟩ := h.cells_ hb
 have hc0 := (blk_cell hb 0).trans rfl
 have hl : (0 : Int) < ((t :: l).length : Int) := by simp
 go_enter Try.func34, Try.ntmps34
 go_wp2
 exact ⟨rfl, rfl, rfl⟩
omit [Low] in
theorem goesP_ {P : Program} {ops : Array Oper} {Q : Exit → Act → World → Prop} {rest : List Oper} {oi : Oper} {a : Act} {w : World} (N : Option Tmp) (hd : oi.dst = N) (hg : oi.guard = none) {f : FuncId} {fn : Func} {xs : Array Operand} {ts : Array TypeId} (hf : P.funcs[f]? = some fn) (hname : (fn.name == "runtime.NumGoroutine") = false) (hb : fn.body.isSome = true) (args : Array Value)
  (hop : oi.op = .call { callee := .value (.func f), args := xs, argTypes := ts }) (hargs : xs.map a.eval = args)
  (h : Calls P f args w fun e w' => (∃ v, e = .returned v ∧ wpList P ops Q rest (a.put N v) w') ∨ ∃ ch, e = .panicked ch ∧ Q (.panic ch) a w') : wpList P ops Q (oi :: rest) a w := by
 refine wpList_plain hg fun K hK => ?_
 have he := enters_ hf hname hb args w
 have hrun : (execOp a.eval oi).run P w = .ok (.enter f args) w := by
  unfold execOp
  simp [hop, resolve, Deferred.ofValue, invoke, Act.eval, hargs, he]
 unfold Oper.wp
 rw [hrun, Oper.upon_enter]
 refine h.mono fun e w'' hh => ?_
 subst hd
 rcases hh with ⟨v, rfl, hk⟩ | ⟨ch, rfl, hk⟩
 ·exact hK _ _ hk
 ·exact hk
omit [Low] in
theorem blk_put {w : World} {g : Nat} {t : TypeId} {cs cs' : Array Value} (h : w.heap[g]? = some (.cells cs t (0, 0))) (i : Nat) (u : Value) (hcs : cs.setIfInBounds i u = cs') : (w.setCell ⟨g, i, none⟩ u).heap[g]? = some (.cells cs' t (0, 0)) := by
 rw [← hcs]; exact blk_set h i u
def Halt (p : Prop) : Prop := p
omit [Low] in
omit [Low] in
theorem results_c {P : Program} {fn : Func} {p : Tmp} {ty : TypeId} (h : fn.results = #[.cell p ty]) (tmps : Array Value) (w : World) (g : Nat) (t : TypeId) (cs : Array Value) (fr : Nat × Nat) (d : TypeDesc)
  (hp : tmps.getD p undef = .pointer (some ⟨g, 0, none⟩)) (hg : w.heap[g]? = some (.cells cs t fr))
  (hu : P.underlying ty = some d) (hd : (match d with | .struct _ | .array _ _ => true | _ => false) = true) (hi : (P.info? ty).map (·.size) = some cs.size) :
  (results fn tmps).run P w = .ok (.agg cs) w := by
 have hp' : tmps[p]?.getD undef = .pointer (some ⟨g, 0, none⟩) := by simpa using hp
 simp [results, h, hp', asAddr, run_loadVar_row w g t ty cs fr d hg hu hd hi]
omit [Low] in
theorem results_ct {P : Program} {fn : Func} {p u : Tmp} {ty : TypeId} (h : fn.results = #[.cell p ty, .tmp u]) (tmps : Array Value) (w : World) (g : Nat) (t : TypeId) (cs : Array Value) (fr : Nat × Nat) (d : TypeDesc)
  (hp : tmps.getD p undef = .pointer (some ⟨g, 0, none⟩)) (hg : w.heap[g]? = some (.cells cs t fr))
  (hu : P.underlying ty = some d) (hd : (match d with | .struct _ | .array _ _ => true | _ => false) = true) (hi : (P.info? ty).map (·.size) = some cs.size) :
  (results fn tmps).run P w = .ok (.tuple #[.agg cs, tmps.getD u undef]) w := by
 have hp' : tmps[p]?.getD undef = .pointer (some ⟨g, 0, none⟩) := by simpa using hp
 simp [results, h, hp', asAddr, run_loadVar_row w g t ty cs fr d hg hu hd hi]
theorem tree_take.calls {B pb : Nat} {t : S28} {l : List S28} {d : Int} (w : World) (h : PS B w pb (t :: l) d) :
  Calls Try.prog 23 #[.pointer (some ⟨pb, 0, none⟩)] w fun e w' => e = .returned (.agg #[.int .i64 t.f0, .string t.f1, .int .i64 t.f2]) ∧ PS B w' pb (SP.tl (t :: l)) d ∧ Fr (· = pb) w w' := by
 have hu64 := Try.underlying64
 have FR := Aside0.mk (Fr.refl (fun k => k = pb) w)
 have M := Aside0.mk h
 have Z := Aside0.mk (And.intro M.out.1 (And.intro M.out.2.1 (Nat.le_refl w.heap.size)))
 clear h
 by_cases hz : t.f0 = 0
 ·have hzb : (t.f0 != 0) = false := by simp [hz]
  have htl : SP.tl (t :: l) = t :: l := by simp [SP.tl, hz]
  rw [htl]
  clear hz htl
  go_enter Try.func23, Try.ntmps23
  go_wp2_with (first
   | ((with_reducible refine gate_dst (N := 2) rfl ?_); (try (refine gate_guard (by rfl) ?_; dsimp only)); refine box_event ?hg (N := 2) ?hd (cs := #[.int .i64 0, .string ⟨#[]⟩, .int .i64 0]) (t := 64) ?hr ?_; (case hd => rfl); (case hg => rfl); (case hr => first | (go_simp; done) | (go_simp; rfl)); intro q a0 Y O a4; have U : Fr (fun _ => False) w Y := Fr.of_below a4; replace FR := Aside0.mk (FR.out.then_ U (fun _ h => h.elim)); replace M := Aside0.mk (M.out.fr U (fun _ h => h.elim)); replace Z := Aside0.mk (And.intro (U.size) Z.out); replace Z := Aside0.mk (And.intro (Nat.le_of_eq a0.symm) Z.out); replace Z := Aside0.mk (And.intro (Nat.le_of_eq a0) Z.out); replace Z := Aside0.mk (And.intro (blk_lt O) Z.out); have a := Aside0.mk O; clear a0 O a4 U; have b : Y.cell? ⟨q, 0, none⟩ = some (.int .i64 0) := (blk_cell a.out 0).trans rfl; have n : Y.frozen? ⟨q, 0, none⟩ = false := blk_frozen a.out 0; have j : Y.cell? ⟨q, 1, none⟩ = some (.string ⟨#[]⟩) := (blk_cell a.out 1).trans rfl; have o : Y.frozen? ⟨q, 1, none⟩ = false := blk_frozen a.out 1; have m : Y.cell? ⟨q, 2, none⟩ = some (.int .i64 0) := (blk_cell a.out 2).trans rfl; have p : Y.frozen? ⟨q, 2, none⟩ = false := blk_frozen a.out 2; clear b n j o m p; have b : Y.cell? ⟨q, 0, none⟩ = some (.int .i64 0) := (blk_cell a.out 0).trans rfl; have n : Y.frozen? ⟨q, 0, none⟩ = false := blk_frozen a.out 0; have j : Y.cell? ⟨q, 1, none⟩ = some (.string ⟨#[]⟩) := (blk_cell a.out 1).trans rfl; have o : Y.frozen? ⟨q, 1, none⟩ = false := blk_frozen a.out 1; have m : Y.cell? ⟨q, 2, none⟩ = some (.int .i64 0) := (blk_cell a.out 2).trans rfl; have p : Y.frozen? ⟨q, 2, none⟩ = false := blk_frozen a.out 2; obtain ⟨a8, cP, a9⟩ := M.out.blk_; have r := Aside0.mk a9; clear a9; clear b n j o m p; have b : Y.cell? ⟨q, 0, none⟩ = some (.int .i64 0) := (blk_cell a.out 0).trans rfl; have n : Y.frozen? ⟨q, 0, none⟩ = false := blk_frozen a.out 0; have j : Y.cell? ⟨q, 1, none⟩ = some (.string ⟨#[]⟩) := (blk_cell a.out 1).trans rfl; have o : Y.frozen? ⟨q, 1, none⟩ = false := blk_frozen a.out 1; have m : Y.cell? ⟨q, 2, none⟩ = some (.int .i64 0) := (blk_cell a.out 2).trans rfl; have p : Y.frozen? ⟨q, 2, none⟩ = false := blk_frozen a.out 2; have x : Y.cell? ⟨pb, 0, none⟩ = some (.slice (some a8) (List.length (t :: l)) cP) := (blk_cell r.out 0).trans rfl; have y : Y.cell? ⟨pb, 1, none⟩ = some (.int .i64 (d)) := (blk_cell r.out 1).trans rfl; have u : q ≠ pb := (by have X := Z.out; omega); have v : pb ≠ q := (by have X := Z.out; omega); obtain ⟨a1, a2, F, H, K⟩ := M.out.cells_ r.out; have a3 : (0 : Int) < ((t :: l).length : Int) := (by simp))
   | ((with_reducible refine gate_dst (N := 3) rfl ?_); (try (refine gate_guard (by rfl) ?_; dsimp only)); refine box_event ?hg (N := 3) ?hd (cs := #[.int .i64 0, .string ⟨#[]⟩, .int .i64 0]) (t := 64) ?hr ?_; (case hd => rfl); (case hg => rfl); (case hr => first | (go_simp; done) | (go_simp; rfl)); intro z a0 L O a4; have U : Fr (fun _ => False) Y L := Fr.of_below a4; replace FR := Aside0.mk (FR.out.then_ U (fun _ h => h.elim)); replace M := Aside0.mk (M.out.fr U (fun _ h => h.elim)); replace a := Aside0.mk (U.blk a.out (fun h => h)); replace r := Aside0.mk (U.blk r.out (fun h => h)); replace Z := Aside0.mk (And.intro (U.size) Z.out); replace Z := Aside0.mk (And.intro (Nat.le_of_eq a0.symm) Z.out); replace Z := Aside0.mk (And.intro (Nat.le_of_eq a0) Z.out); replace Z := Aside0.mk (And.intro (blk_lt O) Z.out); have s := Aside0.mk O; clear a0 O a4 U; clear b n j o m p x y u v F H K a3 a1 a2; have b : L.cell? ⟨q, 0, none⟩ = some (.int .i64 0) := (blk_cell a.out 0).trans rfl; have n : L.frozen? ⟨q, 0, none⟩ = false := blk_frozen a.out 0; have j : L.cell? ⟨q, 1, none⟩ = some (.string ⟨#[]⟩) := (blk_cell a.out 1).trans rfl; have o : L.frozen? ⟨q, 1, none⟩ = false := blk_frozen a.out 1; have m : L.cell? ⟨q, 2, none⟩ = some (.int .i64 0) := (blk_cell a.out 2).trans rfl; have p : L.frozen? ⟨q, 2, none⟩ = false := blk_frozen a.out 2; have x : L.cell? ⟨pb, 0, none⟩ = some (.slice (some a8) (List.length (t :: l)) cP) := (blk_cell r.out 0).trans rfl; have y : L.cell? ⟨pb, 1, none⟩ = some (.int .i64 (d)) := (blk_cell r.out 1).trans rfl; have A : L.cell? ⟨z, 0, none⟩ = some (.int .i64 0) := (blk_cell s.out 0).trans rfl; have a5 : L.frozen? ⟨z, 0, none⟩ = false := blk_frozen s.out 0; have D : L.cell? ⟨z, 1, none⟩ = some (.string ⟨#[]⟩) := (blk_cell s.out 1).trans rfl; have a6 : L.frozen? ⟨z, 1, none⟩ = false := blk_frozen s.out 1; have G : L.cell? ⟨z, 2, none⟩ = some (.int .i64 0) := (blk_cell s.out 2).trans rfl; have a7 : L.frozen? ⟨z, 2, none⟩ = false := blk_frozen s.out 2; have u : q ≠ pb := (by have X := Z.out; omega); have v : pb ≠ q := (by have X := Z.out; omega); have I : q ≠ z := (by have X := Z.out; omega); have J : z ≠ q := (by have X := Z.out; omega); have C : z ≠ pb := (by have X := Z.out; omega); have E : pb ≠ z := (by have X := Z.out; omega); obtain ⟨a1, a2, F, H, K⟩ := M.out.cells_ r.out; have a3 : (0 : Int) < ((t :: l).length : Int) := (by simp)))
  obtain ⟨T, V⟩ : ∃ W_, W_ = (World.setCell (World.setCell (World.setCell L ⟨z, 0, none⟩ (.int .i64 t.f0)) ⟨z, 1, none⟩ (.string t.f1)) ⟨z, 2, none⟩ (.int .i64 t.f2)) := ⟨_, rfl⟩
  rw [← V]
  have U : Fr (fun k => k = z) L T := (by rw [V]; exact (Fr.set (S := fun k => k = z) (Fr.set (S := fun k => k = z) (Fr.set (S := fun k => k = z) (Fr.refl _ _) (.inl rfl) 0 _) (.inl rfl) 1 _) (.inl rfl) 2 _))
  replace s := Aside0.mk (show T.heap[z]? = some (.cells #[.int .i64 t.f0, .string t.f1, .int .i64 t.f2] 64 (0, 0)) from (by rw [V]; exact (blk_put (blk_put (blk_put s.out 0 _ rfl) 1 _ rfl) 2 _ rfl)))
  replace FR := Aside0.mk (FR.out.then_ U (fun k (hk : k = z) => (show (k = pb) ∨ w.heap.size ≤ k from by have X := Z.out; omega)))
  replace M := Aside0.mk (M.out.fr U (fun k (hk : k = z) => (show B ≤ k from by have X := Z.out; omega)))
  replace a := Aside0.mk (U.blk a.out (show ¬ (q = z) from by have X := Z.out; omega))
  replace r := Aside0.mk (U.blk r.out (show ¬ (pb = z) from by have X := Z.out; omega))
  replace Z := Aside0.mk (And.intro (U.size) Z.out)
  clear V U
  clear b n j o m p x y A a5 D a6 G a7 u v I J C E F H K a3 a1 a2
  have b : T.cell? ⟨q, 0, none⟩ = some (.int .i64 0) := (blk_cell a.out 0).trans rfl
  have n : T.frozen? ⟨q, 0, none⟩ = false := blk_frozen a.out 0
  have j : T.cell? ⟨q, 1, none⟩ = some (.string ⟨#[]⟩) := (blk_cell a.out 1).trans rfl
  have o : T.frozen? ⟨q, 1, none⟩ = false := blk_frozen a.out 1
  have m : T.cell? ⟨q, 2, none⟩ = some (.int .i64 0) := (blk_cell a.out 2).trans rfl
  have p : T.frozen? ⟨q, 2, none⟩ = false := blk_frozen a.out 2
  have x : T.cell? ⟨pb, 0, none⟩ = some (.slice (some a8) (List.length (t :: l)) cP) := (blk_cell r.out 0).trans rfl
  have y : T.cell? ⟨pb, 1, none⟩ = some (.int .i64 (d)) := (blk_cell r.out 1).trans rfl
  have A : T.cell? ⟨z, 0, none⟩ = some (.int .i64 t.f0) := (blk_cell s.out 0).trans rfl
  have D : T.cell? ⟨z, 1, none⟩ = some (.string t.f1) := (blk_cell s.out 1).trans rfl
  have G : T.cell? ⟨z, 2, none⟩ = some (.int .i64 t.f2) := (blk_cell s.out 2).trans rfl
  have u : q ≠ pb := (by have X := Z.out; omega)
  have v : pb ≠ q := (by have X := Z.out; omega)
  have I : q ≠ z := (by have X := Z.out; omega)
  have J : z ≠ q := (by have X := Z.out; omega)
  obtain ⟨a1, a2, F, H, K⟩ := M.out.cells_ r.out
  have a3 : (0 : Int) < ((t :: l).length : Int) := (by simp)
  obtain ⟨v4, V⟩ : ∃ W_, W_ = (World.setCell (World.setCell (World.setCell T ⟨q, 0, none⟩ (.int .i64 t.f0)) ⟨q, 1, none⟩ (.string t.f1)) ⟨q, 2, none⟩ (.int .i64 t.f2)) := ⟨_, rfl⟩
  rw [← V]
  have U : Fr (fun k => k = q) T v4 := (by rw [V]; exact (Fr.set (S := fun k => k = q) (Fr.set (S := fun k => k = q) (Fr.set (S := fun k => k = q) (Fr.refl _ _) (.inl rfl) 0 _) (.inl rfl) 1 _) (.inl rfl) 2 _))
  replace a := Aside0.mk (show v4.heap[q]? = some (.cells #[.int .i64 t.f0, .string t.f1, .int .i64 t.f2] 64 (0, 0)) from (by rw [V]; exact (blk_put (blk_put (blk_put a.out 0 _ rfl) 1 _ rfl) 2 _ rfl)))
  replace FR := Aside0.mk (FR.out.then_ U (fun k (hk : k = q) => (show (k = pb) ∨ w.heap.size ≤ k from by have X := Z.out; omega)))
  replace M := Aside0.mk (M.out.fr U (fun k (hk : k = q) => (show B ≤ k from by have X := Z.out; omega)))
  replace r := Aside0.mk (U.blk r.out (show ¬ (pb = q) from by have X := Z.out; omega))
  replace s := Aside0.mk (U.blk s.out (show ¬ (z = q) from by have X := Z.out; omega))
  replace Z := Aside0.mk (And.intro (U.size) Z.out)
  clear V U
  clear b n j o m p x y A D G u v I J F H K a3 a1 a2
  have b : v4.cell? ⟨q, 0, none⟩ = some (.int .i64 t.f0) := (blk_cell a.out 0).trans rfl
  have j : v4.cell? ⟨q, 1, none⟩ = some (.string t.f1) := (blk_cell a.out 1).trans rfl
  have m : v4.cell? ⟨q, 2, none⟩ = some (.int .i64 t.f2) := (blk_cell a.out 2).trans rfl
  have x : v4.cell? ⟨pb, 0, none⟩ = some (.slice (some a8) (List.length (t :: l)) cP) := (blk_cell r.out 0).trans rfl
  have y : v4.cell? ⟨pb, 1, none⟩ = some (.int .i64 (d)) := (blk_cell r.out 1).trans rfl
  have A : v4.cell? ⟨z, 0, none⟩ = some (.int .i64 t.f0) := (blk_cell s.out 0).trans rfl
  have D : v4.cell? ⟨z, 1, none⟩ = some (.string t.f1) := (blk_cell s.out 1).trans rfl
  have G : v4.cell? ⟨z, 2, none⟩ = some (.int .i64 t.f2) := (blk_cell s.out 2).trans rfl
  obtain ⟨a1, a2, F, H, K⟩ := M.out.cells_ r.out
  have a3 : (0 : Int) < ((t :: l).length : Int) := (by simp)
  refine bodyPost_ret (results_c rfl _ _ q 64 _ (0, 0) _ rfl a.out hu64 rfl rfl) rfl ?_
  exact ⟨rfl, M.out, FR.out⟩
 ·have hzb : (t.f0 != 0) = true := by simp [hz]
  have htl : SP.tl (t :: l) = l := by simp [SP.tl, hz]
  rw [htl]
  have hcut : ∀ (ad : Addr) (c : Nat) (W : World), (Instr.slice 55 (.slice (some ad) (l.length + 1) c) (some (.int .i64 1)) none none).run Try.prog W = .ok (.slice (nxt ad c) l.length (c - 1)) W := fun ad c W => by
   obtain ⟨i, hi⟩ : ∃ i, Try.prog.info? 64 = some i := Option.isSome_iff_exists.1 (by kernel_rfl)
   have hsz : i.size = 3 := by
    have := info64
    rw [hi] at this
    simp only [Option.map_some, Option.some.injEq, Prod.mk.injEq] at this
    exact this.2.1
   have h := cut_from (P := Try.prog) 55 64 .i64 Try.underlying55 hi 3 hsz (some ad) (l.length + 1) c 1 (by decide) (by omega) W
   exact h
  clear hz htl
  go_enter Try.func23, Try.ntmps23
  go_wp2_with (first
   | ((with_reducible refine gate_dst (N := 2) rfl ?_); (try (refine gate_guard (by rfl) ?_; dsimp only)); refine box_event ?hg (N := 2) ?hd (cs := #[.int .i64 0, .string ⟨#[]⟩, .int .i64 0]) (t := 64) ?hr ?_; (case hd => rfl); (case hg => rfl); (case hr => first | (go_simp; done) | (go_simp; rfl)); intro q a0 Y O a4; have U : Fr (fun _ => False) w Y := Fr.of_below a4; replace FR := Aside0.mk (FR.out.then_ U (fun _ h => h.elim)); replace M := Aside0.mk (M.out.fr U (fun _ h => h.elim)); replace Z := Aside0.mk (And.intro (U.size) Z.out); replace Z := Aside0.mk (And.intro (Nat.le_of_eq a0.symm) Z.out); replace Z := Aside0.mk (And.intro (Nat.le_of_eq a0) Z.out); replace Z := Aside0.mk (And.intro (blk_lt O) Z.out); have a := Aside0.mk O; clear a0 O a4 U; have b : Y.cell? ⟨q, 0, none⟩ = some (.int .i64 0) := (blk_cell a.out 0).trans rfl; have n : Y.frozen? ⟨q, 0, none⟩ = false := blk_frozen a.out 0; have j : Y.cell? ⟨q, 1, none⟩ = some (.string ⟨#[]⟩) := (blk_cell a.out 1).trans rfl; have o : Y.frozen? ⟨q, 1, none⟩ = false := blk_frozen a.out 1; have m : Y.cell? ⟨q, 2, none⟩ = some (.int .i64 0) := (blk_cell a.out 2).trans rfl; have p : Y.frozen? ⟨q, 2, none⟩ = false := blk_frozen a.out 2; clear b n j o m p; have b : Y.cell? ⟨q, 0, none⟩ = some (.int .i64 0) := (blk_cell a.out 0).trans rfl; have n : Y.frozen? ⟨q, 0, none⟩ = false := blk_frozen a.out 0; have j : Y.cell? ⟨q, 1, none⟩ = some (.string ⟨#[]⟩) := (blk_cell a.out 1).trans rfl; have o : Y.frozen? ⟨q, 1, none⟩ = false := blk_frozen a.out 1; have m : Y.cell? ⟨q, 2, none⟩ = some (.int .i64 0) := (blk_cell a.out 2).trans rfl; have p : Y.frozen? ⟨q, 2, none⟩ = false := blk_frozen a.out 2; obtain ⟨a8, cP, a9⟩ := M.out.blk_; have r := Aside0.mk a9; clear a9; clear b n j o m p; have b : Y.cell? ⟨q, 0, none⟩ = some (.int .i64 0) := (blk_cell a.out 0).trans rfl; have n : Y.frozen? ⟨q, 0, none⟩ = false := blk_frozen a.out 0; have j : Y.cell? ⟨q, 1, none⟩ = some (.string ⟨#[]⟩) := (blk_cell a.out 1).trans rfl; have o : Y.frozen? ⟨q, 1, none⟩ = false := blk_frozen a.out 1; have m : Y.cell? ⟨q, 2, none⟩ = some (.int .i64 0) := (blk_cell a.out 2).trans rfl; have p : Y.frozen? ⟨q, 2, none⟩ = false := blk_frozen a.out 2; have x : Y.cell? ⟨pb, 0, none⟩ = some (.slice (some a8) (List.length (t :: l)) cP) := (blk_cell r.out 0).trans rfl; have Q : Y.frozen? ⟨pb, 0, none⟩ = false := blk_frozen r.out 0; have y : Y.cell? ⟨pb, 1, none⟩ = some (.int .i64 (d)) := (blk_cell r.out 1).trans rfl; have R : Y.frozen? ⟨pb, 1, none⟩ = false := blk_frozen r.out 1; have v : pb ≠ q := (by have X := Z.out; omega); have u : q ≠ pb := (by have X := Z.out; omega); obtain ⟨a1, a2, F, H, K⟩ := M.out.cells_ r.out; have a3 : (0 : Int) < ((t :: l).length : Int) := (by simp))
   | ((with_reducible refine gate_dst (N := 3) rfl ?_); (try (refine gate_guard (by rfl) ?_; dsimp only)); refine box_event ?hg (N := 3) ?hd (cs := #[.int .i64 0, .string ⟨#[]⟩, .int .i64 0]) (t := 64) ?hr ?_; (case hd => rfl); (case hg => rfl); (case hr => first | (go_simp; done) | (go_simp; rfl)); intro z a0 L O a4; have U : Fr (fun _ => False) Y L := Fr.of_below a4; replace FR := Aside0.mk (FR.out.then_ U (fun _ h => h.elim)); replace M := Aside0.mk (M.out.fr U (fun _ h => h.elim)); replace a := Aside0.mk (U.blk a.out (fun h => h)); replace r := Aside0.mk (U.blk r.out (fun h => h)); replace Z := Aside0.mk (And.intro (U.size) Z.out); replace Z := Aside0.mk (And.intro (Nat.le_of_eq a0.symm) Z.out); replace Z := Aside0.mk (And.intro (Nat.le_of_eq a0) Z.out); replace Z := Aside0.mk (And.intro (blk_lt O) Z.out); have s := Aside0.mk O; clear a0 O a4 U; clear b n j o m p x Q y R v u F H K a3 a1 a2; have b : L.cell? ⟨q, 0, none⟩ = some (.int .i64 0) := (blk_cell a.out 0).trans rfl; have n : L.frozen? ⟨q, 0, none⟩ = false := blk_frozen a.out 0; have j : L.cell? ⟨q, 1, none⟩ = some (.string ⟨#[]⟩) := (blk_cell a.out 1).trans rfl; have o : L.frozen? ⟨q, 1, none⟩ = false := blk_frozen a.out 1; have m : L.cell? ⟨q, 2, none⟩ = some (.int .i64 0) := (blk_cell a.out 2).trans rfl; have p : L.frozen? ⟨q, 2, none⟩ = false := blk_frozen a.out 2; have x : L.cell? ⟨pb, 0, none⟩ = some (.slice (some a8) (List.length (t :: l)) cP) := (blk_cell r.out 0).trans rfl; have Q : L.frozen? ⟨pb, 0, none⟩ = false := blk_frozen r.out 0; have y : L.cell? ⟨pb, 1, none⟩ = some (.int .i64 (d)) := (blk_cell r.out 1).trans rfl; have R : L.frozen? ⟨pb, 1, none⟩ = false := blk_frozen r.out 1; have A : L.cell? ⟨z, 0, none⟩ = some (.int .i64 0) := (blk_cell s.out 0).trans rfl; have a5 : L.frozen? ⟨z, 0, none⟩ = false := blk_frozen s.out 0; have D : L.cell? ⟨z, 1, none⟩ = some (.string ⟨#[]⟩) := (blk_cell s.out 1).trans rfl; have a6 : L.frozen? ⟨z, 1, none⟩ = false := blk_frozen s.out 1; have G : L.cell? ⟨z, 2, none⟩ = some (.int .i64 0) := (blk_cell s.out 2).trans rfl; have a7 : L.frozen? ⟨z, 2, none⟩ = false := blk_frozen s.out 2; have v : pb ≠ q := (by have X := Z.out; omega); have u : q ≠ pb := (by have X := Z.out; omega); have E : pb ≠ z := (by have X := Z.out; omega); have C : z ≠ pb := (by have X := Z.out; omega); have I : q ≠ z := (by have X := Z.out; omega); have J : z ≠ q := (by have X := Z.out; omega); obtain ⟨a1, a2, F, H, K⟩ := M.out.cells_ r.out; have a3 : (0 : Int) < ((t :: l).length : Int) := (by simp)))
  obtain ⟨T, V⟩ : ∃ W_, W_ = (World.setCell (World.setCell (World.setCell L ⟨z, 0, none⟩ (.int .i64 t.f0)) ⟨z, 1, none⟩ (.string t.f1)) ⟨z, 2, none⟩ (.int .i64 t.f2)) := ⟨_, rfl⟩
  rw [← V]
  have U : Fr (fun k => k = z) L T := (by rw [V]; exact (Fr.set (S := fun k => k = z) (Fr.set (S := fun k => k = z) (Fr.set (S := fun k => k = z) (Fr.refl _ _) (.inl rfl) 0 _) (.inl rfl) 1 _) (.inl rfl) 2 _))
  replace s := Aside0.mk (show T.heap[z]? = some (.cells #[.int .i64 t.f0, .string t.f1, .int .i64 t.f2] 64 (0, 0)) from (by rw [V]; exact (blk_put (blk_put (blk_put s.out 0 _ rfl) 1 _ rfl) 2 _ rfl)))
  replace FR := Aside0.mk (FR.out.then_ U (fun k (hk : k = z) => (show (k = pb) ∨ w.heap.size ≤ k from by have X := Z.out; omega)))
  replace M := Aside0.mk (M.out.fr U (fun k (hk : k = z) => (show B ≤ k from by have X := Z.out; omega)))
  replace a := Aside0.mk (U.blk a.out (show ¬ (q = z) from by have X := Z.out; omega))
  replace r := Aside0.mk (U.blk r.out (show ¬ (pb = z) from by have X := Z.out; omega))
  replace Z := Aside0.mk (And.intro (U.size) Z.out)
  clear V U
  clear b n j o m p x Q y R A a5 D a6 G a7 v u E C I J F H K a3 a1 a2
  have b : T.cell? ⟨q, 0, none⟩ = some (.int .i64 0) := (blk_cell a.out 0).trans rfl
  have n : T.frozen? ⟨q, 0, none⟩ = false := blk_frozen a.out 0
  have j : T.cell? ⟨q, 1, none⟩ = some (.string ⟨#[]⟩) := (blk_cell a.out 1).trans rfl
  have o : T.frozen? ⟨q, 1, none⟩ = false := blk_frozen a.out 1
  have m : T.cell? ⟨q, 2, none⟩ = some (.int .i64 0) := (blk_cell a.out 2).trans rfl
  have p : T.frozen? ⟨q, 2, none⟩ = false := blk_frozen a.out 2
  have x : T.cell? ⟨pb, 0, none⟩ = some (.slice (some a8) (List.length (t :: l)) cP) := (blk_cell r.out 0).trans rfl
  have Q : T.frozen? ⟨pb, 0, none⟩ = false := blk_frozen r.out 0
  have y : T.cell? ⟨pb, 1, none⟩ = some (.int .i64 (d)) := (blk_cell r.out 1).trans rfl
  have R : T.frozen? ⟨pb, 1, none⟩ = false := blk_frozen r.out 1
  have A : T.cell? ⟨z, 0, none⟩ = some (.int .i64 t.f0) := (blk_cell s.out 0).trans rfl
  have D : T.cell? ⟨z, 1, none⟩ = some (.string t.f1) := (blk_cell s.out 1).trans rfl
  have G : T.cell? ⟨z, 2, none⟩ = some (.int .i64 t.f2) := (blk_cell s.out 2).trans rfl
  have v : pb ≠ q := (by have X := Z.out; omega)
  have u : q ≠ pb := (by have X := Z.out; omega)
  have E : pb ≠ z := (by have X := Z.out; omega)
  have C : z ≠ pb := (by have X := Z.out; omega)
  have I : q ≠ z := (by have X := Z.out; omega)
  have J : z ≠ q := (by have X := Z.out; omega)
  obtain ⟨a1, a2, F, H, K⟩ := M.out.cells_ r.out
  have a3 : (0 : Int) < ((t :: l).length : Int) := (by simp)
  obtain ⟨v4, V⟩ : ∃ W_, W_ = World.setCell T ⟨pb, 0, none⟩ (.slice (nxt a8 cP) (List.length (l)) (cP - 1)) := ⟨_, rfl⟩
  rw [← V]
  have U : Fr (fun k => k = pb) T v4 := (by rw [V]; exact (Fr.set (S := fun k => k = pb) (Fr.refl _ _) (.inl rfl) 0 _))
  replace M := Aside0.mk (show PS B v4 pb (l) (d) from (by rw [V]; exact M.out.next r.out))
  clear r
  replace FR := Aside0.mk (FR.out.then_ U (fun k (hk : k = pb) => (show (k = pb) ∨ w.heap.size ≤ k from by have X := Z.out; omega)))
  replace a := Aside0.mk (U.blk a.out (show ¬ (q = pb) from by have X := Z.out; omega))
  replace s := Aside0.mk (U.blk s.out (show ¬ (z = pb) from by have X := Z.out; omega))
  replace Z := Aside0.mk (And.intro (U.size) Z.out)
  clear V U
  clear b n j o m p x Q y R A D G v u E C I J F H K a3 a1 a2
  have b : v4.cell? ⟨q, 0, none⟩ = some (.int .i64 0) := (blk_cell a.out 0).trans rfl
  have n : v4.frozen? ⟨q, 0, none⟩ = false := blk_frozen a.out 0
  have j : v4.cell? ⟨q, 1, none⟩ = some (.string ⟨#[]⟩) := (blk_cell a.out 1).trans rfl
  have o : v4.frozen? ⟨q, 1, none⟩ = false := blk_frozen a.out 1
  have m : v4.cell? ⟨q, 2, none⟩ = some (.int .i64 0) := (blk_cell a.out 2).trans rfl
  have p : v4.frozen? ⟨q, 2, none⟩ = false := blk_frozen a.out 2
  have A : v4.cell? ⟨z, 0, none⟩ = some (.int .i64 t.f0) := (blk_cell s.out 0).trans rfl
  have D : v4.cell? ⟨z, 1, none⟩ = some (.string t.f1) := (blk_cell s.out 1).trans rfl
  have G : v4.cell? ⟨z, 2, none⟩ = some (.int .i64 t.f2) := (blk_cell s.out 2).trans rfl
  have I : q ≠ z := (by have X := Z.out; omega)
  have J : z ≠ q := (by have X := Z.out; omega)
  obtain ⟨v5, V⟩ : ∃ W_, W_ = (World.setCell (World.setCell (World.setCell v4 ⟨q, 0, none⟩ (.int .i64 t.f0)) ⟨q, 1, none⟩ (.string t.f1)) ⟨q, 2, none⟩ (.int .i64 t.f2)) := ⟨_, rfl⟩
  rw [← V]
  have U : Fr (fun k => k = q) v4 v5 := (by rw [V]; exact (Fr.set (S := fun k => k = q) (Fr.set (S := fun k => k = q) (Fr.set (S := fun k => k = q) (Fr.refl _ _) (.inl rfl) 0 _) (.inl rfl) 1 _) (.inl rfl) 2 _))
  replace a := Aside0.mk (show v5.heap[q]? = some (.cells #[.int .i64 t.f0, .string t.f1, .int .i64 t.f2] 64 (0, 0)) from (by rw [V]; exact (blk_put (blk_put (blk_put a.out 0 _ rfl) 1 _ rfl) 2 _ rfl)))
  replace FR := Aside0.mk (FR.out.then_ U (fun k (hk : k = q) => (show (k = pb) ∨ w.heap.size ≤ k from by have X := Z.out; omega)))
  replace M := Aside0.mk (M.out.fr U (fun k (hk : k = q) => (show B ≤ k from by have X := Z.out; omega)))
  replace s := Aside0.mk (U.blk s.out (show ¬ (z = q) from by have X := Z.out; omega))
  replace Z := Aside0.mk (And.intro (U.size) Z.out)
  clear V U
  clear b n j o m p A D G I J
  have b : v5.cell? ⟨q, 0, none⟩ = some (.int .i64 t.f0) := (blk_cell a.out 0).trans rfl
  have j : v5.cell? ⟨q, 1, none⟩ = some (.string t.f1) := (blk_cell a.out 1).trans rfl
  have m : v5.cell? ⟨q, 2, none⟩ = some (.int .i64 t.f2) := (blk_cell a.out 2).trans rfl
  have A : v5.cell? ⟨z, 0, none⟩ = some (.int .i64 t.f0) := (blk_cell s.out 0).trans rfl
  have D : v5.cell? ⟨z, 1, none⟩ = some (.string t.f1) := (blk_cell s.out 1).trans rfl
  have G : v5.cell? ⟨z, 2, none⟩ = some (.int .i64 t.f2) := (blk_cell s.out 2).trans rfl
  refine bodyPost_ret (results_c rfl _ _ q 64 _ (0, 0) _ rfl a.out hu64 rfl rfl) rfl ?_
  exact ⟨rfl, M.out, FR.out⟩
end Go.Proofs.Ytpodpmjlkbbkoaa.P
namespace Go.Proofs.YtpodpmjlkbbkoaaW.PrintWords
open Go.RowKit Go.Proofs.Ytpodpmjlkbbkoaa.P
section
variable [Low] {S0 T : Nat → Prop} {w v v' : World} {B pb g x : Nat} {l : List S28} {d : Int} {o : Obj} {nd : SP.Nd} {nv kv : Value}
omit [Low] in
theorem Aside0.f0 (h : Aside0 (Fr S0 w v)) (K : Fr (fun _ => False) v v') : Aside0 (Fr S0 w v') := ⟨h.out.then_ K (fun _ h => h.elim)⟩
omit [Low] in
theorem Aside0.f1 (h : Aside0 (Fr S0 w v)) (K : Fr (fun k => k = g) v v') (hg : S0 g ∨ w.heap.size ≤ g) : Aside0 (Fr S0 w v') := ⟨h.out.then_ K (fun _ h => h ▸ hg)⟩
theorem Aside0.p0 (h : Aside0 (PS B v pb l d)) (K : Fr (fun _ => False) v v') : Aside0 (PS B v' pb l d) := ⟨h.out.fr K (fun _ h => h.elim)⟩
theorem Aside0.p1 (h : Aside0 (PS B v pb l d)) (K : Fr (fun k => k = g) v v') (hg : g < Low.lo ∨ B ≤ g) : Aside0 (PS B v' pb l d) := ⟨h.out.frL K (fun _ h => h ▸ hg)⟩
omit [Low] in
theorem Aside0.b0 (h : Aside0 (v.heap[x]? = some o)) (K : Fr (fun _ => False) v v') : Aside0 (v'.heap[x]? = some o) := ⟨K.blk h.out (fun h => h)⟩
omit [Low] in
theorem Aside0.b1 (h : Aside0 (v.heap[x]? = some o)) (K : Fr (fun k => k = g) v v') (hg : x ≠ g) : Aside0 (v'.heap[x]? = some o) := ⟨K.blk h.out hg⟩
omit [Low] in
theorem Aside0.n0 (h : Aside0 (NQ T v nd nv kv)) (K : Fr (fun _ => False) v v') : Aside0 (NQ T v' nd nv kv) := ⟨K.nq h.out (fun _ _ h => h)⟩
omit [Low] in
theorem Aside0.n1 (h : Aside0 (NQ T v nd nv kv)) (K : Fr (fun k => k = g) v v') (hg : ∀ k, T k → k ≠ g) : Aside0 (NQ T v' nd nv kv) := ⟨K.nq h.out hg⟩
omit [Low] in
theorem Aside0.q0 {α : Type} {e : Nat} {D : Kd α} {u : Value} {xs : List α} (h : Aside0 (D.Q e v 0 T u xs)) (K : Fr (fun _ => False) v v') : Aside0 (D.Q e v' 0 T u xs) := ⟨K.Q h.out (fun _ _ h => h)⟩
omit [Low] in
theorem Aside0.q1 {α : Type} {e : Nat} {D : Kd α} {u : Value} {xs : List α} (h : Aside0 (D.Q e v 0 T u xs)) (K : Fr (fun k => k = g) v v') (hg : ∀ k, T k → k ≠ g) : Aside0 (D.Q e v' 0 T u xs) := ⟨K.Q h.out hg⟩
omit [Low] in
theorem Aside0.z {t : TypeId} {cs : Array Value} (h : Aside0 (w.heap[g]? = some (.cells cs t (0, 0)))) : ∀ i, w.frozen? ⟨g, i, none⟩ = false := fun i => blk_frozen h.out i
omit [Low] in
theorem Aside0.c1 {t : TypeId} {b0 : Value} (h : Aside0 (w.heap[g]? = some (.cells #[b0] t (0, 0)))) : w.cell? ⟨g, 0, none⟩ = some b0 := (blk_cell h.out 0).trans rfl
omit [Low] in
theorem Aside0.s1 {t : TypeId} {c0 : Value} (h : Aside0 (w.heap[g]? = some (.cells #[c0] t (0, 0)))) (b0 : Value) : ∃ W, (w.setCell ⟨g, 0, none⟩ b0) = W ∧ Fr (fun k => k = g) w W ∧ Aside0 (W.heap[g]? = some (.cells #[b0] t (0, 0))) := ⟨_, rfl, (Fr.set (S := fun k => k = g) (Fr.refl _ _) (.inl rfl) 0 _), ⟨(blk_put h.out 0 _ rfl)⟩⟩
omit [Low] in
theorem Aside0.c2 {t : TypeId} {b0 b1 : Value} (h : Aside0 (w.heap[g]? = some (.cells #[b0, b1] t (0, 0)))) : w.cell? ⟨g, 0, none⟩ = some b0 ∧ w.cell? ⟨g, 1, none⟩ = some b1 := ⟨(blk_cell h.out 0).trans rfl, (blk_cell h.out 1).trans rfl⟩
omit [Low] in
theorem Aside0.s2 {t : TypeId} {c0 c1 : Value} (h : Aside0 (w.heap[g]? = some (.cells #[c0, c1] t (0, 0)))) (b0 b1 : Value) : ∃ W, ((w.setCell ⟨g, 0, none⟩ b0).setCell ⟨g, 1, none⟩ b1) = W ∧ Fr (fun k => k = g) w W ∧ Aside0 (W.heap[g]? = some (.cells #[b0, b1] t (0, 0))) := ⟨_, rfl, (Fr.set (S := fun k => k = g) (Fr.set (S := fun k => k = g) (Fr.refl _ _) (.inl rfl) 0 _) (.inl rfl) 1 _), ⟨(blk_put (blk_put h.out 0 _ rfl) 1 _ rfl)⟩⟩
omit [Low] in
theorem Aside0.c3 {t : TypeId} {b0 b1 b2 : Value} (h : Aside0 (w.heap[g]? = some (.cells #[b0, b1, b2] t (0, 0)))) : w.cell? ⟨g, 0, none⟩ = some b0 ∧ w.cell? ⟨g, 1, none⟩ = some b1 ∧ w.cell? ⟨g, 2, none⟩ = some b2 := ⟨(blk_cell h.out 0).trans rfl, (blk_cell h.out 1).trans rfl, (blk_cell h.out 2).trans rfl⟩
omit [Low] in
theorem Aside0.s3 {t : TypeId} {c0 c1 c2 : Value} (h : Aside0 (w.heap[g]? = some (.cells #[c0, c1, c2] t (0, 0)))) (b0 b1 b2 : Value) : ∃ W, (((w.setCell ⟨g, 0, none⟩ b0).setCell ⟨g, 1, none⟩ b1).setCell ⟨g, 2, none⟩ b2) = W ∧ Fr (fun k => k = g) w W ∧ Aside0 (W.heap[g]? = some (.cells #[b0, b1, b2] t (0, 0))) := ⟨_, rfl, (Fr.set (S := fun k => k = g) (Fr.set (S := fun k => k = g) (Fr.set (S := fun k => k = g) (Fr.refl _ _) (.inl rfl) 0 _) (.inl rfl) 1 _) (.inl rfl) 2 _), ⟨(blk_put (blk_put (blk_put h.out 0 _ rfl) 1 _ rfl) 2 _ rfl)⟩⟩
omit [Low] in
theorem Aside0.c6 {t : TypeId} {b0 b1 b2 b3 b4 b5 : Value} (h : Aside0 (w.heap[g]? = some (.cells #[b0, b1, b2, b3, b4, b5] t (0, 0)))) : w.cell? ⟨g, 0, none⟩ = some b0 ∧ w.cell? ⟨g, 1, none⟩ = some b1 ∧ w.cell? ⟨g, 2, none⟩ = some b2 ∧ w.cell? ⟨g, 3, none⟩ = some b3 ∧ w.cell? ⟨g, 4, none⟩ = some b4 ∧ w.cell? ⟨g, 5, none⟩ = some b5 := ⟨(blk_cell h.out 0).trans rfl, (blk_cell h.out 1).trans rfl, (blk_cell h.out 2).trans rfl, (blk_cell h.out 3).trans rfl, (blk_cell h.out 4).trans rfl, (blk_cell h.out 5).trans rfl⟩
omit [Low] in
theorem Aside0.s6 {t : TypeId} {c0 c1 c2 c3 c4 c5 : Value} (h : Aside0 (w.heap[g]? = some (.cells #[c0, c1, c2, c3, c4, c5] t (0, 0)))) (b0 b1 b2 b3 b4 b5 : Value) : ∃ W, ((((((w.setCell ⟨g, 0, none⟩ b0).setCell ⟨g, 1, none⟩ b1).setCell ⟨g, 2, none⟩ b2).setCell ⟨g, 3, none⟩ b3).setCell ⟨g, 4, none⟩ b4).setCell ⟨g, 5, none⟩ b5) = W ∧ Fr (fun k => k = g) w W ∧ Aside0 (W.heap[g]? = some (.cells #[b0, b1, b2, b3, b4, b5] t (0, 0))) := ⟨_, rfl, (Fr.set (S := fun k => k = g) (Fr.set (S := fun k => k = g) (Fr.set (S := fun k => k = g) (Fr.set (S := fun k => k = g) (Fr.set (S := fun k => k = g) (Fr.set (S := fun k => k = g) (Fr.refl _ _) (.inl rfl) 0 _) (.inl rfl) 1 _) (.inl rfl) 2 _) (.inl rfl) 3 _) (.inl rfl) 4 _) (.inl rfl) 5 _), ⟨(blk_put (blk_put (blk_put (blk_put (blk_put (blk_put h.out 0 _ rfl) 1 _ rfl) 2 _ rfl) 3 _ rfl) 4 _ rfl) 5 _ rfl)⟩⟩
omit [Low] in
theorem Aside0.st {t : TypeId} {cs : Array Value} (h : Aside0 (w.heap[g]? = some (.cells cs t (0, 0)))) (i : Nat) (b : Value) {cs' : Array Value} (hc : cs.setIfInBounds i b = cs') : ∃ W, w.setCell ⟨g, i, none⟩ b = W ∧ Fr (fun k => k = g) w W ∧ Aside0 (W.heap[g]? = some (.cells cs' t (0, 0))) := ⟨_, rfl, Fr.set (S := fun k => k = g) (Fr.refl _ _) (.inl rfl) i _, ⟨blk_put h.out i _ hc⟩⟩
end
end Go.Proofs.YtpodpmjlkbbkoaaW.PrintWords
namespace Go.Proofs.Ytpodpmjlkbbkoaa.P
open Go.RowKit Go.Proofs.YtpodpmjlkbbkoaaW.PrintWords Go.Proofs.YtpodpmjlkbbkoaaW.PrintLast Go.Proofs.YtpodpmjlkbbkoaaW.PrintMore
section
variable [Low] {ops : Array Oper} {Q : Exit → Act → World → Prop} {rest : List Oper} {oi : Oper} {a : Act} {w : World} {P : Program}
omit [Low] in
theorem boxE (N : Tmp) (cs : Array Value) (t : TypeId) (hd : oi.dst = some N := by rfl) (hgd : oi.guard = none := by rfl)
  (hrun : (execOp a.eval oi).run P w = .ok (.value (.pointer (some ⟨w.heap.size, 0, none⟩))) (w.alloc (.cells cs t (0, 0))) := by first | (go_simp; done) | (go_simp; rfl))
  (h : ∀ g w1, Aside0 (w1.heap[g]? = some (.cells cs t (0, 0))) → Fr (fun _ => False) w w1 → (w.heap.size = g ∧ g < w1.heap.size ∧ w.heap.size ≤ w1.heap.size) → wpList P ops Q rest (a.put oi.dst (.pointer (some ⟨g, 0, none⟩))) w1) : wpList P ops Q (oi :: rest) a w :=
 box_event hgd (N := N) hd hrun fun g hg w1 hb hbl => h g w1 ⟨hb⟩ (Fr.of_below hbl) ⟨hg.symm, blk_lt hb, hbl.size⟩
omit [Low] in
theorem litE (N : Tmp) (cs : Array Value) (t : TypeId) (n : Nat) (hd : oi.dst = some N := by rfl) (hgd : oi.guard = none := by rfl)
  (hrun : (execOp a.eval oi).run P w = .ok (.value (.slice (some ⟨w.heap.size, 0, none⟩) n n)) (w.alloc (.cells cs t (0, 0))) := by first | (go_simp; done) | (go_simp; rfl))
  (h : ∀ g w1, Aside0 (w1.heap[g]? = some (.cells cs t (0, 0))) → Fr (fun _ => False) w w1 → (w.heap.size = g ∧ g < w1.heap.size ∧ w.heap.size ≤ w1.heap.size) → wpList P ops Q rest (a.put oi.dst (.slice (some ⟨g, 0, none⟩) n n)) w1) : wpList P ops Q (oi :: rest) a w :=
 Kd.event_run hgd hrun (h w.heap.size _ ⟨blk_new w _⟩ (Fr.of_below (below_alloc (Below.refl _ _) _)) ⟨rfl, blk_lt (blk_new w _), (below_alloc (Below.refl w.heap.size w) _).size⟩)
omit [Low] in
theorem goE (N : Tmp) {f : FuncId} {fn : Func} {xs : Array Operand} {ts : Array TypeId} {args : Array Value} {R : Ending → World → Prop} (hf : P.funcs[f]? = some fn) (hc : Calls P f args w R) (hd : oi.dst = some N := by rfl) (hg : oi.guard = none := by rfl) (hname : (fn.name == "runtime.NumGoroutine") = false := by kernel_rfl) (hb : fn.body.isSome = true := by rfl)
  (hop : oi.op = .call { callee := .value (.func f), args := xs, argTypes := ts } := by rfl) (hargs : xs.map a.eval = args := by (try simp only [List.map_toArray, List.map_cons, List.map_nil]); first | done | rfl)
  (h : ∀ e w', R e w' → (∃ v, e = .returned v ∧ wpList P ops Q rest (a.put (some N) v) w') ∨ ∃ ch, e = .panicked ch ∧ Q (.panic ch) a w') : wpList P ops Q (oi :: rest) a w :=
 goesP_ (some N) hd hg hf hname hb args hop hargs (hc.mono h)
end
section
variable [Low] {ops : Array Oper} {Q : Exit → Act → World → Prop} {rest : List Oper} {oi : Oper} {a : Act} {w : World} {B pb : Nat} {t : S28} {l : List S28} {d : Int}
theorem kindE (N : Tmp) {xs : Array Operand} {ts : Array TypeId} (hP : Aside0 (PS B w pb (t :: l) d)) (hd : oi.dst = some N := by rfl) (hg : oi.guard = none := by rfl) (hop : oi.op = .call { callee := .value (.func 24), args := xs, argTypes := ts } := by rfl) (hargs : xs.map a.eval = #[.pointer (some ⟨pb, 0, none⟩)] := by (try simp only [List.map_toArray, List.map_cons, List.map_nil]); first | done | rfl)
  (h : wpList Try.prog ops Q rest (a.put (some N) (.int .i64 t.f0)) w) : wpList Try.prog ops Q (oi :: rest) a w :=
 goesP_ (some N) hd hg Try.func24 (by kernel_rfl) rfl _ hop hargs ((tree_kind.calls w hP.out).mono fun e w' ⟨he, hw⟩ => .inl ⟨_, he, hw ▸ h⟩)
theorem takeE (N : Tmp) {xs : Array Operand} {ts : Array TypeId} (hP : Aside0 (PS B w pb (t :: l) d)) (hd : oi.dst = some N := by rfl) (hg : oi.guard = none := by rfl) (hop : oi.op = .call { callee := .value (.func 23), args := xs, argTypes := ts } := by rfl) (hargs : xs.map a.eval = #[.pointer (some ⟨pb, 0, none⟩)] := by (try simp only [List.map_toArray, List.map_cons, List.map_nil]); first | done | rfl)
  (h : ∀ w', PS B w' pb (SP.tl (t :: l)) d → Fr (fun k => k = pb) w w' → wpList Try.prog ops Q rest (a.put (some N) (.agg #[.int .i64 t.f0, .string t.f1, .int .i64 t.f2])) w') : wpList Try.prog ops Q (oi :: rest) a w :=
 goesP_ (some N) hd hg Try.func23 (by kernel_rfl) rfl _ hop hargs ((tree_take.calls w hP.out).mono fun e w' ⟨he, hp, hf⟩ => .inl ⟨_, he, h w' hp hf⟩)
theorem badE (N : Tmp) {xs : Array Operand} {ts : Array TypeId} (why : Int) (hP : Aside0 (PS B w pb (t :: l) d)) (hd : oi.dst = some N := by rfl) (hg : oi.guard = none := by rfl) (hop : oi.op = .call { callee := .value (.func 34), args := xs, argTypes := ts } := by rfl) (hargs : xs.map a.eval = #[.pointer (some ⟨pb, 0, none⟩), .int .i64 why] := by (try simp only [List.map_toArray, List.map_cons, List.map_nil]); first | done | rfl)
  (h : Q (.panic (stopOf t.f2 why)) a w) : wpList Try.prog ops Q (oi :: rest) a w :=
 goesP_ (some N) hd hg Try.func34 (by kernel_rfl) rfl _ hop hargs ((tree_bad.calls w hP.out why).mono fun e w' ⟨he, hw⟩ => .inr ⟨_, he, hw ▸ h⟩)
end
end Go.Proofs.Ytpodpmjlkbbkoaa.P
namespace Go.Proofs.YtpodpmjlkbbkoaaW.PrintWords
open Go.Proofs.Ytpodpmjlkbbkoaa.P
section
variable {p q : Prop} {S : Nat → Prop} {w v : World} {t g : Nat}
theorem Aside0.k (z : Aside0 p) (K : Fr S w v) : Aside0 (w.heap.size ≤ v.heap.size ∧ p) := ⟨K.size, z.out⟩
theorem Aside0.a (z : Aside0 p) (h : q) : Aside0 (q ∧ p) := ⟨h, z.out⟩
theorem Aside0.e1 {b0 : Value} (h : Aside0 (w.heap[g]? = some (.cells #[b0] t (0, 0)))) : (w.cell? ⟨g, 0, none⟩ = some b0) ∧ (∀ i, w.frozen? ⟨g, i, none⟩ = false) := ⟨h.c1, h.z⟩
theorem Aside0.e2 {b0 b1 : Value} (h : Aside0 (w.heap[g]? = some (.cells #[b0, b1] t (0, 0)))) : (w.cell? ⟨g, 0, none⟩ = some b0 ∧ w.cell? ⟨g, 1, none⟩ = some b1) ∧ (∀ i, w.frozen? ⟨g, i, none⟩ = false) := ⟨h.c2, h.z⟩
theorem Aside0.e3 {b0 b1 b2 : Value} (h : Aside0 (w.heap[g]? = some (.cells #[b0, b1, b2] t (0, 0)))) : (w.cell? ⟨g, 0, none⟩ = some b0 ∧ w.cell? ⟨g, 1, none⟩ = some b1 ∧ w.cell? ⟨g, 2, none⟩ = some b2) ∧ (∀ i, w.frozen? ⟨g, i, none⟩ = false) := ⟨h.c3, h.z⟩
theorem Aside0.e6 {b0 b1 b2 b3 b4 b5 : Value} (h : Aside0 (w.heap[g]? = some (.cells #[b0, b1, b2, b3, b4, b5] t (0, 0)))) : (w.cell? ⟨g, 0, none⟩ = some b0 ∧ w.cell? ⟨g, 1, none⟩ = some b1 ∧ w.cell? ⟨g, 2, none⟩ = some b2 ∧ w.cell? ⟨g, 3, none⟩ = some b3 ∧ w.cell? ⟨g, 4, none⟩ = some b4 ∧ w.cell? ⟨g, 5, none⟩ = some b5) ∧ (∀ i, w.frozen? ⟨g, i, none⟩ = false) := ⟨h.c6, h.z⟩
end
end Go.Proofs.YtpodpmjlkbbkoaaW.PrintWords
namespace Go.Proofs.YtpodpmjlkbbkoaaW.PrintLast
open Go.RowKit Go.Proofs.YtpodpmjlkbbkoaaW.PrintWords
section
variable {P : Program} {ops : Array Oper} {Q : Exit → Act → World → Prop} {md : Region.Mode} {S : World → Prop} {ds : List Nat} {oi : Oper} {v : Value} {fuel : Nat} {l l' : Array Bool} {a a' : Act} {w : World}
theorem puA (i : Nat) (N : Tmp) (hi : ops[i]? = some oi := by rfl) (hN : oi.dst = some N := by rfl) (hl : l.setIfInBounds i true = l' := by (simp only [List.setIfInBounds_toArray, List.set_cons_zero, List.set_cons_succ]; rfl)) (hc : anyB md ops l l' i = true := by kernel_rfl) (hQ : ∀ c a w, Q (.panic c) (a.put oi.dst v) w → Q (.panic c) a w := by exact fun _ _ _ h => h)
  (hy : Yields P ops oi v a := by (refine Or.inl ⟨by rfl, ?_⟩; intro w'; go_simp; with_reducible rfl)) (ha : a.put (some N) v = a' := by (simp only [Act.put, List.setIfInBounds_toArray, List.set_cons_zero, List.set_cons_succ]; rfl))
  (h : wpAnyLast P md ops Q S ds fuel l' a' w) : wpAnyLast P md ops Q S ds (fuel + 1) l a w := pure_ l' hi hN hc hQ hy ha h
theorem tkA (i : Nat) (N : Tmp) (hS : S w) (hi : ops[i]? = some oi := by rfl) (hN : oi.dst = some N := by rfl) (hl : l.setIfInBounds i true = l' := by (simp only [List.setIfInBounds_toArray, List.set_cons_zero, List.set_cons_succ]; rfl)) (hc : takeB md ops ds l l' i = true := by kernel_rfl) (hQ : ∀ c a w, Q (.panic c) (a.put oi.dst v) w → Q (.panic c) a w := by exact fun _ _ _ h => h)
  (hy : YieldsIf P ops S oi v a := by (refine Or.inl ⟨by rfl, ?_⟩; intro w' hS_; (repeat (obtain ⟨_, hS_⟩ := hS_)); go_simp; with_reducible rfl)) (ha : a.put (some N) v = a' := by (simp only [Act.put, List.setIfInBounds_toArray, List.set_cons_zero, List.set_cons_succ]; rfl))
  (h : wpAnyLast P md ops Q S ds fuel l' a' w) : wpAnyLast P md ops Q S ds (fuel + 1) l a w := take_ l' hi hN hc hQ hy hS ha h
theorem nmA (N : Tmp) (ha : a.put (some N) v = a' := by (simp only [Act.put, List.setIfInBounds_toArray, List.set_cons_zero, List.set_cons_succ]; rfl)) (h : wpAnyLast P md ops Q S ds fuel l a' w) : wpAnyLast P md ops Q S ds fuel l (a.put (some N) v) w := norm_ ha h
theorem oN (i : Nat) (N : Option Tmp) (hi : ops[i]? = some oi := by rfl) (hN : oi.dst = N := by rfl) (hl : l.setIfInBounds i true = l' := by (simp only [List.setIfInBounds_toArray, List.set_cons_zero, List.set_cons_succ]; rfl)) (hc : readyB md ops l l' i = true := by kernel_rfl) (hd : i ∉ ds := by decide)
  (h : ∀ K : Act → World → Prop, Shut (∀ a' w', S w' → (S w' → wpAnyLast P md ops Q S ds fuel l' a' w') → K a' w') → if Region.wanted oi (yielded ops a.tmps) = true then Oper.wp P oi a w K Q else K (a.put N undef) w) :
  wpAnyLast P md ops Q S ds (fuel + 1) l a w := one_ l' hi hN hc hd h
theorem la (i : Nat) (N : Option Tmp) (hi : ops[i]? = some oi := by rfl) (hN : oi.dst = N := by rfl) (hl : l.setIfInBounds i true = l' := by (simp only [List.setIfInBounds_toArray, List.set_cons_zero, List.set_cons_succ]; rfl)) (hc : readyB md ops l l' i = true := by kernel_rfl) (hd : i ∈ ds := by decide)
  (h : ∀ K : Act → World → Prop, Shut (∀ a' w', wpAnyLast P md ops Q S ds fuel l' a' w' → K a' w') → if Region.wanted oi (yielded ops a.tmps) = true then Oper.wp P oi a w K Q else K (a.put N undef) w) :
  wpAnyLast P md ops Q S ds (fuel + 1) l a w := last_ l' hi hN hc hd h
end
end Go.Proofs.YtpodpmjlkbbkoaaW.PrintLast
set_option maxHeartbeats 16000000
set_option maxRecDepth 100000
namespace Go.Proofs.Ytpodpmjlkbbkoaa.P
open Go.RowKit Go.Proofs.YtpodpmjlkbbkoaaW.PrintWords Go.Proofs.YtpodpmjlkbbkoaaW.PrintLast Go.Proofs.YtpodpmjlkbbkoaaW.PrintMore
variable [Low]
theorem tree_need.good {B pb : Nat} {t : S28} {l : List S28} {d : Int} (w : World) (kd : Int) (h : PS B w pb (t :: l) d) (hk : (t.f0 != kd) = false) :
  Calls Try.prog 22 #[.pointer (some ⟨pb, 0, none⟩), .int .i64 kd] w fun e w' => e = .returned (.agg #[.int .i64 t.f0, .string t.f1, .int .i64 t.f2]) ∧ PS B w' pb (SP.tl (t :: l)) d ∧ Fr (· = pb) w w' := by
 have hu64 := Try.underlying64
 have FR := Aside0.mk (Fr.refl (fun k => k = pb) w)
 have PS_ := Aside0.mk h
 have Z := Aside0.mk (And.intro PS_.out.1 (And.intro PS_.out.2.1 (Nat.le_refl w.heap.size)))
 clear h
 go_enter Try.func22, Try.ntmps22
 go_wp2_with (first
  | ((with_reducible refine gate_dst (N := 4) rfl ?_); apply boxE 4 #[.int .i64 0, .string ⟨#[]⟩, .int .i64 0] 64; intro g4 v1 BKg4 K_ hz_; replace FR := FR.f0 K_; replace PS_ := PS_.p0 K_; replace Z := Z.a hz_; clear hz_ K_; have hc_g4 := BKg4.e3)
  | ((with_reducible refine gate_dst (N := 6) rfl ?_); (try (refine gate_guard (by rfl) ?_; dsimp only)); apply kindE 6 PS_)
  | ((with_reducible refine gate_dst (N := 12) rfl ?_); apply takeE 12 PS_; intro v2 hps_ K_; replace PS_ := Aside0.mk hps_; clear hps_; have hZ := Z.out; replace FR := FR.f1 K_ (by omega); replace BKg4 := BKg4.b1 K_ (by omega); clear hZ; replace Z := Z.k K_; clear K_; clear hc_g4; have hc_g4 := BKg4.e3))
 have hs_ := BKg4.s3 (.int .i64 t.f0) (.string t.f1) (.int .i64 t.f2)
 clear BKg4
 obtain ⟨v3, hw_, K_, BKg4⟩ := hs_
 rw [hw_]
 clear hw_
 have hZ := Z.out
 replace FR := FR.f1 K_ (by omega)
 replace PS_ := PS_.p1 K_ (by omega)
 clear hZ
 replace Z := Z.k K_
 clear K_
 clear hc_g4
 have hc_g4 := BKg4.c3
 refine bodyPost_ret (results_c rfl _ _ g4 64 _ (0, 0) _ rfl BKg4.out hu64 rfl rfl) rfl ?_
 exact ⟨rfl, PS_.out, FR.out⟩
theorem tree_need.poor {B pb : Nat} {t : S28} {l : List S28} {d : Int} (w : World) (kd : Int) (h : PS B w pb (t :: l) d) (hk : (t.f0 != kd) = true) :
  Calls Try.prog 22 #[.pointer (some ⟨pb, 0, none⟩), .int .i64 kd] w fun e w' => e = .panicked (stopOf t.f2 20) ∧ Fr (· = pb) w w' := by
 have hu64 := Try.underlying64
 have FR := Aside0.mk (Fr.refl (fun k => k = pb) w)
 have PS_ := Aside0.mk h
 have Z := Aside0.mk (And.intro PS_.out.1 (And.intro PS_.out.2.1 (Nat.le_refl w.heap.size)))
 clear h
 go_enter Try.func22, Try.ntmps22
 go_wp2_with (first
  | ((with_reducible refine gate_dst (N := 4) rfl ?_); apply boxE 4 #[.int .i64 0, .string ⟨#[]⟩, .int .i64 0] 64; intro g4 v1 BKg4 K_ hz_; replace FR := FR.f0 K_; replace PS_ := PS_.p0 K_; replace Z := Z.a hz_; clear hz_ K_; have hc_g4 := BKg4.e3)
  | ((with_reducible refine gate_dst (N := 6) rfl ?_); (try (refine gate_guard (by rfl) ?_; dsimp only)); apply kindE 6 PS_)
  | ((with_reducible refine gate_dst (N := 10) rfl ?_); (try (refine gate_guard (by rfl) ?_; dsimp only)); apply badE 10 20 PS_))
 exact ⟨rfl, rfl, FR.out⟩
def Ans {α : Type} (r : Except (Int × Int) (α × List S28)) (B pb : Nat) (d : Int) (w : World) (ok : α → Value → World → Prop) (e : Ending) (w' : World) : Prop := match r with
 | .error x => e = .panicked (stopOf x.1 x.2) ∧ Fr (· = pb) w w'
 | .ok x => ∃ v, e = .returned v ∧ ok x.1 v w' ∧ PS B w' pb x.2 d ∧ Fr (· = pb) w w'
theorem tree_need.calls {B pb : Nat} {l : List S28} {d : Int} (w : World) (kd : Int) {r : Except (Int × Int) (S28 × List S28)} (hr : SP.need kd l = some r) (h : PS B w pb l d) :
  Calls Try.prog 22 #[.pointer (some ⟨pb, 0, none⟩), .int .i64 kd] w (Ans r B pb d w (fun t v _ => v = .agg #[.int .i64 t.f0, .string t.f1, .int .i64 t.f2])) := by
 cases l with
 | nil => simp [SP.need, SP.top] at hr
 | cons t l =>
  by_cases hk : t.f0 = kd
  ·simp only [SP.need, SP.top, SP.ret, hk, if_true, Option.some.injEq] at hr
   subst hr
   exact (tree_need.good w kd h (by simp [hk])).mono fun e w' ⟨h1, h2, h3⟩ => ⟨_, h1, rfl, h2, h3⟩
  ·simp only [SP.need, SP.top, SP.bad, hk, if_false, Option.some.injEq] at hr
   subst hr
   exact (tree_need.poor w kd h (by simp [hk])).mono fun e w' h1 => h1
omit [Low] in
theorem wrap2 (x : Int) (h0 : 0 ≤ x) (h1 : x ≤ 4611686018427387904) : IntKind.i64.wrap x = x ∧ wrap64 x = x := by
 have h : wrap64 x = x := by unfold wrap64; omega
 exact ⟨by rw [IntKind.wrap_i64]; unfold wrap64 at h; exact h, h⟩
omit [Low] in
theorem goesV_ {P : Program} {ops : Array Oper} {Q : Exit → Act → World → Prop} {rest : List Oper} {oi : Oper} {a : Act} {w : World} (N : Option Tmp) (hd : oi.dst = N) (hg : oi.guard = none) {f : FuncId} {fn : Func} {xs : Array Operand} {ts : Array TypeId} (hf : P.funcs[f]? = some fn) (hname : (fn.name == "runtime.NumGoroutine") = false) (hb : fn.body.isSome = true) (cv : Operand) (fst cap args : Array Value)
  (hop : oi.op = .call { callee := .value cv, args := xs, argTypes := ts }) (hc : a.eval cv = .func (.func f) fst cap) (hargs : fst ++ xs.map a.eval ++ cap = args)
  (h : Calls P f args w fun e w' => (∃ v, e = .returned v ∧ wpList P ops Q rest (a.put N v) w') ∨ ∃ ch, e = .panicked ch ∧ Q (.panic ch) a w') : wpList P ops Q (oi :: rest) a w := by
 refine wpList_plain hg fun K hK => ?_
 have he := enters_ hf hname hb args w
 have hrun : (execOp a.eval oi).run P w = .ok (.enter f args) w := by
  unfold execOp
  simp only [hop, resolve, hc, Deferred.ofValue, invoke]
  simp [hargs, he]
 unfold Oper.wp
 rw [hrun, Oper.upon_enter]
 refine h.mono fun e w'' hh => ?_
 subst hd
 rcases hh with ⟨v, rfl, hk⟩ | ⟨ch, rfl, hk⟩
 ·exact hK _ _ hk
 ·exact hk
def AnsC {α : Type} (r : Except (Int × Int) (α × List S28)) (B pb : Nat) (d : Int) (X : Nat → Prop) (w : World) (ok : α → World → Prop) (e : Ending) (w' : World) : Prop := match r with
 | .error x => e = .panicked (stopOf x.1 x.2) ∧ Fr X w w'
 | .ok x => e = .returned (.tuple #[]) ∧ ok x.1 w' ∧ PS B w' pb x.2 d ∧ Fr X w w'
theorem tree_within.poor {B pb : Nat} {t : S28} {l : List S28} {d : Int} (w : World) (F : FuncId) (fst cap : Array Value) (h : PS B w pb (t :: l) d) (hk : (d == 40) = true) :
  Calls Try.prog 62 #[.pointer (some ⟨pb, 0, none⟩), .func (.func F) fst cap] w fun e w' => e = .panicked (stopOf t.f2 3) ∧ Fr (· = pb) w w' := by
 have FR := Aside0.mk (Fr.refl (fun k => k = pb) w)
 have PS_ := Aside0.mk h
 have Z := Aside0.mk (And.intro PS_.out.1 (And.intro PS_.out.2.1 (Nat.le_refl w.heap.size)))
 clear h
 obtain ⟨adP, cP, hbP_⟩ := PS_.out.blk_
 have BKpb := Aside0.mk hbP_
 clear hbP_
 have hc_pb := BKpb.e2
 obtain ⟨hP1, hP2, hxP0, hxP1, hxP2⟩ := PS_.out.cells_ BKpb.out
 have hlP : (0 : Int) < ((t :: l).length : Int) := (by simp only [List.length_cons]; omega)
 go_enter Try.func62, Try.ntmps62
 go_wp2_with (first
  | ((with_reducible refine gate_dst (N := 10) rfl ?_); (try (refine gate_guard (by rfl) ?_; dsimp only)); apply badE 10 3 PS_))
 exact ⟨rfl, rfl, FR.out⟩
theorem tree_within.good {α : Type} {B pb : Nat} {t : S28} {l : List S28} {d : Int} (w : World) (F : FuncId) {fn : Func} (hF : Try.prog.funcs[F]? = some fn) (hFn : (fn.name == "runtime.NumGoroutine") = false) (hFb : fn.body.isSome = true) (fst cap args : Array Value) (hargs : fst ++ cap = args) (X : Nat → Prop) (hX : ∀ k, k = pb → X k) (okc : α → World → Prop) (hst : ∀ a w1 w2, okc a w1 → Fr (· = pb) w1 w2 → okc a w2) (r : Except (Int × Int) (α × List S28))
  (hcl : ∀ w2, PS B w2 pb (SP.tl (t :: l)) (d + 1) → Fr (· = pb) w w2 → Calls Try.prog F args w2 (AnsC r B pb (d + 1) X w2 okc))
  (h : PS B w pb (t :: l) d) (hk : (d == 40) = false) :
  Calls Try.prog 62 #[.pointer (some ⟨pb, 0, none⟩), .func (.func F) fst cap] w (AnsC r B pb d X w okc) := by
 have j := Aside0.mk (Fr.refl (fun k => k = pb) w)
 have b := Aside0.mk h
 have Z := Aside0.mk (And.intro b.out.1 (And.intro b.out.2.1 (Nat.le_refl w.heap.size)))
 clear h
 obtain ⟨G, I, n⟩ := b.out.blk_
 have e := Aside0.mk n
 clear n
 have o := e.e2
 obtain ⟨v, x, p, q, s⟩ := b.out.cells_ e.out
 have y : (0 : Int) < ((t :: l).length : Int) := (by simp only [List.length_cons]; omega)
 have hd0 := b.out.2.2.1
 have hd1 := b.out.2.2.2.1
 have hw1 := (wrap2 (d + 1) (by omega) (by omega)).2
 have hw2 := (wrap2 (d + 1) (by omega) (by omega)).1
 have hd40 := Aside0.mk (show d ≠ 40 from by simpa using hk)
 have hw3 := (wrap2 d (by omega) (by omega)).2
 have hw4 := (wrap2 d (by omega) (by omega)).1
 have hs1 : d + 1 - 1 = d := by omega
 replace hd0 := Aside0.mk hd0
 replace hd1 := Aside0.mk hd1
 go_enter Try.func62, Try.ntmps62
 go_wp2_with (first
  | ((with_reducible refine gate_dst (N := 19) rfl ?_); obtain ⟨A, m⟩ : ∃ W_, W_ = World.setCell w ⟨pb, 1, none⟩ (.int .i64 (d + 1)) := ⟨_, rfl⟩; rw [← m]; have i : Fr (fun k => k = pb) w A := (by rw [m]; exact (Fr.set (S := fun k => k = pb) (Fr.refl _ _) (.inl rfl) 1 _)); replace b := Aside0.mk (show PS B A pb (t :: l) (d + 1) from (by rw [m]; exact b.out.deep _ (by have := b.out.2.2.1; omega) (by have := b.out.2.2.2.1; have := hd40.out; omega))); clear e; have z := Z.out; replace j := j.f1 i (by omega); clear z; replace Z := Z.k i; clear m i; clear o p q s y v x; apply takeE 19 b; intro J c i; replace b := Aside0.mk c; clear c; have z := Z.out; replace j := j.f1 i (by omega); clear z; replace Z := Z.k i; clear i)
  | ((with_reducible refine gate_dst (N := 21) rfl ?_); (try (refine gate_guard (by rfl) ?_; dsimp only)); refine goesV_ (some 21) rfl rfl hF hFn hFb (.tmp 20) fst cap args rfl rfl (by simpa using hargs) ?_; refine (hcl _ b.out j.out).mono ?_; rintro M D u; rcases r with x_ | ⟨a_, l2⟩; (obtain ⟨rfl, i⟩ := u; exact Or.inr ⟨_, rfl, rfl, rfl, (j.out.mono hX).then_ i (fun k hk => .inl hk)⟩); obtain ⟨rfl, hok_, c, i⟩ := u; refine Or.inl ⟨_, rfl, ?_⟩; replace b := Aside0.mk c; replace j := Aside0.mk ((j.out.mono hX).then_ i (fun k hk => .inl hk)); have OK_ := Aside0.mk hok_; obtain ⟨AE, cE, hbE⟩ := b.out.any_; have e := Aside0.mk hbE; have hcE := (blk_cell hbE 1).trans rfl; have hfE := blk_frozen hbE 1; clear c i hok_ hbE))
 have K2 : Fr (fun k => k = pb) D (D.setCell ⟨pb, 1, none⟩ (.int .i64 d)) := Fr.set (S := fun k => k = pb) (Fr.refl _ _) (.inl rfl) 1 _
 refine bodyPost_end (results_none rfl _ _ _) rfl ?_
 exact ⟨rfl, hst _ _ _ OK_.out K2, b.out.deep _ hd0.out hd1.out, j.out.then_ K2 (fun k hk => .inl (hX k hk))⟩
end Go.Proofs.Ytpodpmjlkbbkoaa.P
namespace Go.Proofs.Ytpodpmjlkbbkoaa.P
open Go.RowKit Go.Proofs.YtpodpmjlkbbkoaaW.PrintWords Go.Proofs.YtpodpmjlkbbkoaaW.PrintLast Go.Proofs.YtpodpmjlkbbkoaaW.PrintMore
variable [Low]
omit [Low] in
theorem goesR_ {P : Program} {ops : Array Oper} {Q : Exit → Act → World → Prop} {oi : Oper} {N : Option Tmp} {a : Act} {w : World} {K : Act → World → Prop} {f : FuncId} {fn : Func} {xs : Array Operand} {ts : Array TypeId} (hf : P.funcs[f]? = some fn) (hname : (fn.name == "runtime.NumGoroutine") = false) (hb : fn.body.isSome = true) (args : Array Value)
  (hw : Region.wanted oi (yielded ops a.tmps) = true) (hN : oi.dst = N) (hop : oi.op = .call { callee := .value (.func f), args := xs, argTypes := ts }) (hargs : xs.map a.eval = args)
  (h : Calls P f args w fun e w' => (∃ v, e = .returned v ∧ K (a.put N v) w') ∨ ∃ ch, e = .panicked ch ∧ Q (.panic ch) a w') : if Region.wanted oi (yielded ops a.tmps) = true then Oper.wp P oi a w K Q else K (a.put N undef) w := by
 rw [if_pos hw]
 subst hN
 have he := enters_ hf hname hb args w
 have hrun : (execOp a.eval oi).run P w = .ok (.enter f args) w := by
  unfold execOp
  simp [hop, resolve, Deferred.ofValue, invoke, Act.eval, hargs, he]
 unfold Oper.wp
 rw [hrun, Oper.upon_enter]
 refine h.mono fun e w'' hh => ?_
 rcases hh with ⟨v, rfl, hk⟩ | ⟨ch, rfl, hk⟩
 ·exact hk
 ·exact hk
omit [Low] in
theorem newR_ {P : Program} {ops : Array Oper} {Q : Exit → Act → World → Prop} {oi : Oper} {N : Option Tmp} {a : Act} {W : World} {K : Act → World → Prop} {cs : Array Value} {t : TypeId}
  (hw : Region.wanted oi (yielded ops a.tmps) = true) (hN : oi.dst = N) (hrun : (execOp a.eval oi).run P W = .ok (.value (.slice (some ⟨W.heap.size, 0, none⟩) 1 1)) (W.alloc (.cells cs t (0, 0))))
  (h : ∀ g, g = W.heap.size → ∀ w1, w1.heap[g]? = some (.cells cs t (0, 0)) → Below W.heap.size W w1 → K (a.put N (.slice (some ⟨g, 0, none⟩) 1 1)) w1) : if Region.wanted oi (yielded ops a.tmps) = true then Oper.wp P oi a W K Q else K (a.put N undef) W :=
 value_ hw hN hrun (h _ rfl _ (blk_new W _) (below_alloc (Below.refl _ _) _))
omit [Low] in
theorem info36 : (Try.prog.info? 36).map (fun i => (i.zero, i.size, i.bytes)) = some (some (.agg #[.int .i64 0, .string ⟨#[]⟩, .int .i64 0, .int .i64 0, .slice none 0 0, .slice none 0 0]), 6, 88) := by kernel_rfl
omit [Low] in
theorem info9 : (Try.prog.info? 9).map (fun i => (i.zero, i.size, i.bytes)) = some (some (.string ⟨#[]⟩), 1, 16) := by kernel_rfl
omit [Low] in
theorem Q_run_at {α : Type} (d : Kd α) (t ty e : TypeId) (z : Value) (bytes : Nat) (ht : Try.prog.underlying t = some (.slice e)) (hinfo : (Try.prog.info? e).map (fun i => (i.zero, i.size, i.bytes)) = some (some z, d.sz, bytes)) (hz : z.cells.size = d.sz) (hs0 : 0 < d.sz) (hb0 : 0 < bytes)
  {W : World} {S okp : Nat → Prop} {v : Value} {xs : List α} {p : α} {cs : List Value} {b : Nat} (hq : d.Q e W 0 S v xs) (hp : d.M W 0 okp p cs) (hokp : ∀ k, okp k → S k ∧ some k ≠ v.ownBlock) (hfresh : ∀ k, W.heap.size ≤ k → S k)
  (hb : W.heap[b]? = some (.cells cs.toArray e (0, 0))) (hl : (xs.length + 1) * bytes ≤ 140737488355328) :
  ∃ v1 w1, (Builtin.append_ #[t, t] ty #[v, .slice (some ⟨b, 0, none⟩) 1 1]).run Try.prog W = .ok v1 w1 ∧ d.Q e w1 0 S v1 (xs ++ [p]) ∧ Fr (fun k => v.ownBlock = some k) W w1 ∧ (v1.ownBlock = v.ownBlock ∨ ∃ b, v1.ownBlock = some b ∧ W.heap.size ≤ b) := by
 obtain ⟨h0, inner, hown, hr⟩ := hq
 obtain ⟨i0, hi, hzz⟩ := Option.map_eq_some_iff.1 hinfo
 simp only [Prod.mk.injEq] at hzz
 obtain ⟨hz0, hz1, hz2⟩ := hzz
 have hlen : xs.length + 1 ≤ 140737488355328 := Nat.le_trans (Nat.le_mul_of_pos_right _ hb0) hl
 have hcl := d.K_len (d.K_of_M hp)
 obtain ⟨v1, w1, hrun, hq1, hg1, hat⟩ := q_append (P := Try.prog) W 0 t ty e i0 z d.sz bytes ht hi hz0 hz1 hz2 hz hs0 v xs.length inner hown ⟨b, 0, none⟩ 1 1 cs (by rw [hcl, Nat.one_mul])
  (by simpa using World.news_of_block (cs := cs.toArray) (t := e) (fr := (0, 0)) hb) (d.K_one (d.K_of_M hp)) (by omega) (by simp only [maxLen]; omega) hl (Nat.zero_le _)
 exact ⟨v1, w1, hrun, Kd.Q_appended h0 hr hp hokp hfresh hq1 hg1 hat, (Fr.refl _ _).grown hg1 (fun k hk => .inl hk), hat⟩
def zNd : SP.Nd := .mk 0 ⟨#[]⟩ 0 0 [] []
omit [Low] in
theorem zNd_M (w : World) : kNd.M w 0 (fun _ => False) zNd [.int .i64 0, .string ⟨#[]⟩, .int .i64 0, .int .i64 0, .slice none 0 0, .slice none 0 0] := (NQ.none_ (fun _ => False) w 0 ⟨#[]⟩ 0 0).M
omit [Low] in
theorem kid_append {W : World} {S : Nat → Prop} {v : Value} {ks : List SP.Nd} {b : Nat} (ty : TypeId) (m : Nat) (hm : ∀ k, v.ownBlock = some k → k < m) (hq : kNd.Q 36 W 0 S v ks) (hfresh : ∀ k, W.heap.size ≤ k → S k) (hSb : S b)
  (hb : W.heap[b]? = some (.cells #[.int .i64 0, .string ⟨#[]⟩, .int .i64 0, .int .i64 0, .slice none 0 0, .slice none 0 0] 36 (0, 0))) (hl : ks.length < 1099511627776) :
  ∃ g o c w1 q, (Builtin.append_ #[34, 34] ty #[v, .slice (some ⟨b, 0, none⟩) 1 1]).run Try.prog W = .ok (.slice (some ⟨g, o, none⟩) (ks.length + 1) c) w1 ∧ Fr (fun k => k = q) W w1 ∧ (S q ∧ (q < m ∨ q = b) ∧ q < W.heap.size) ∧ (S g ∧ (g < m ∨ W.heap.size ≤ g) ∧ g < w1.heap.size) ∧
   (∀ (w2 : World) (X : Nat → Prop), Fr X w1 w2 → ¬ X g → ∀ j, j < 6 → ∃ u, w2.cell? ⟨g, o + ks.length * 6 + j, none⟩ = some u ∧ w2.frozen? ⟨g, o + ks.length * 6 + j, none⟩ = false) ∧
   ∀ (w2 : World) (x : SP.Nd) (nv kv : Value) (X okp : Nat → Prop), Fr X w1 w2 → (∀ k, S k → ¬ X k) → NQ okp w2 x nv kv → (∀ k, okp k → S k ∧ k ≠ g) →
    kNd.Q 36 (w2.setCells g (o + ks.length * 6) [.int .i64 x.kind, .string x.text, .int .i64 x.place, .int .i64 x.n, nv, kv]) 0 S (.slice (some ⟨g, o, none⟩) (ks.length + 1) c) (ks ++ [x]) ∧ Fr (fun k => k = g) w2 (w2.setCells g (o + ks.length * 6) [.int .i64 x.kind, .string x.text, .int .i64 x.place, .int .i64 x.n, nv, kv]) := by
 obtain ⟨a, w1, hr, h1, h2, h3⟩ := Q_run_at kNd 34 ty 36 _ 88 Try.underlying34 info36 rfl (by decide) (by decide) hq (zNd_M W) (fun k hk => hk.elim) hfresh hb (by omega)
 have hlen : (ks ++ [zNd]).length = ks.length + 1 := by simp
 obtain ⟨g, o, c, rfl, h4, h5, cells, h6⟩ := Kd.Q_form h1 (by rw [hlen]; omega)
 rw [hlen] at hr h1
 have hi0 : (0 : Int) ≤ ((ks.length : Nat) : Int) := by omega
 have hi1 : ((ks.length : Nat) : Int) < ((ks.length + 1 : Nat) : Int) := by omega
 obtain ⟨cc, h7, h8, h9, h10⟩ := Kd.Q_elem h1 zNd ((ks.length : Nat) : Int) hi0 hi1
 have hn : (((ks.length : Nat) : Int)).toNat = ks.length := by simp
 have h6s : kNd.sz = 6 := rfl
 rw [hn, h6s] at h9 h10
 have hbl := blk_lt hb
 obtain ⟨q, hq1, hq2, hq3, hq4⟩ : ∃ q, (∀ k, v.ownBlock = some k → k = q) ∧ S q ∧ (q < m ∨ q = b) ∧ q < W.heap.size := by
  cases hv : v.ownBlock with
  | none => exact ⟨b, fun k hk => (by cases hk), hSb, .inr rfl, hbl⟩
  | some k => exact ⟨k, fun j hj => (Option.some.inj hj).symm, hq.1 k hv, .inl (hm k hv), Kd.Q_lt hq k hv⟩
 refine ⟨g, o, c, w1, q, hr, h2.mono hq1, ⟨hq2, hq3, hq4⟩, ⟨h1.1 g rfl, ?_, h5⟩, fun w2 X hf hX j hj => ?_, ?_⟩
 ·rcases h3 with h3 | ⟨b', h3, h3'⟩
  ·exact .inl (hm g (by rw [← h3]; rfl))
  ·simp only [Value.ownBlock, Option.map_some, Option.some.injEq] at h3
   exact .inr (by omega)
 ·have hj' : j < cc.length := by rw [h7, h6s]; exact hj
  exact ⟨_, cell_kept (h9 j _ (List.getElem?_eq_getElem hj')) hf.2 hX, blk_frozen (hf.blk h6 hX) _⟩
 ·intro w2 x nv kv X okp hf hX hx hok
  have h1' := hf.Q h1 hX
  have hcc : ∀ j u, cc[j]? = some u → w2.cell? ⟨g, o + (((ks.length : Nat) : Int)).toNat * kNd.sz + j, none⟩ = some u := fun j u hu => by
   rw [hn, h6s]
   exact cell_kept (h9 j u hu) hf.2 (hX g (h1.1 g rfl))
  have hM : kNd.M w2 0 okp x (cc.take 0 ++ [.int .i64 x.kind, .string x.text, .int .i64 x.place, .int .i64 x.n, nv, kv] ++ cc.drop (0 + [Value.int .i64 x.kind, .string x.text, .int .i64 x.place, .int .i64 x.n, nv, kv].length)) := by
   have hd : cc.drop 6 = [] := List.drop_eq_nil_of_le (by rw [h7, h6s]; exact Nat.le_refl _)
   simp only [List.take_zero, List.nil_append, List.length_cons, List.length_nil, Nat.zero_add]
   rw [hd, List.append_nil]
   exact hx.M
  have hs := Kd.Q_seg (j := 0) h1' ((ks.length : Nat) : Int) hi0 hi1 h7 hcc (by rw [h6s]; exact Nat.le_refl _) hM hok
  rw [hn, h6s, Nat.add_zero] at hs
  have e : (ks ++ [zNd]).set ks.length x = ks ++ [x] := by simp
  rw [e] at hs
  have hf2 := Fr.grown (S := fun k => k = g) (w' := w2) (Fr.refl _ _) hs.2 (fun k hk => .inl (Option.some.inj hk).symm)
  exact ⟨hs.1, hf2⟩
omit [Low] in
theorem appendR_ {P : Program} {ops : Array Oper} {Q : Exit → Act → World → Prop} {oi : Oper} {N : Option Tmp} {a : Act} {W w1 : World} {K : Act → World → Prop} {v sx v1 : Value} {t : TypeId} (s x : Operand)
  (hw : Region.wanted oi (yielded ops a.tmps) = true) (hN : oi.dst = N) (ho : oi.op = .call { callee := .builtin .append, args := #[s, x], argTypes := #[t, t] }) (hs : a.eval s = v) (hx : a.eval x = sx)
  (hr : (Builtin.append_ #[t, t] oi.type #[v, sx]).run P W = .ok v1 w1) (h : K (a.put N v1) w1) : if Region.wanted oi (yielded ops a.tmps) = true then Oper.wp P oi a W K Q else K (a.put N undef) W := by
 refine value_ hw hN ?_ h
 unfold execOp
 simp only [ho, resolve, invoke, builtin, Sem.run_bind, Sem.run_pure, Result.andThen_ok, List.map_toArray, List.map_cons, List.map_nil, hs, hx, hr]
omit [Low] in
theorem appendL_ {P : Program} {ops : Array Oper} {Q : Exit → Act → World → Prop} {rest : List Oper} {oi : Oper} {a : Act} {W w1 : World} {v sx v1 : Value} {t : TypeId} (N : Option Tmp) (hd : oi.dst = N) (hg : oi.guard = none) (s x : Operand)
  (ho : oi.op = .call { callee := .builtin .append, args := #[s, x], argTypes := #[t, t] }) (hs : a.eval s = v) (hx : a.eval x = sx)
  (hr : (Builtin.append_ #[t, t] oi.type #[v, sx]).run P W = .ok v1 w1) (h : wpList P ops Q rest (a.put N v1) w1) : wpList P ops Q (oi :: rest) a W := by
 refine wpList_plain hg fun K hK => ?_
 subst hd
 unfold Oper.wp execOp
 simp only [ho, resolve, invoke, builtin, Sem.run_bind, Sem.run_pure, Result.andThen_ok, List.map_toArray, List.map_cons, List.map_nil, hs, hx, hr]
 exact hK _ _ h
section
variable {P : Program} {ops : Array Oper} {Q : Exit → Act → World → Prop} {md : Region.Mode} {S : World → Prop} {ds : List Nat}
omit [Low] in
theorem two_last_ {i j : Nat} {Ni Nj : Option Tmp} {oi oj : Oper} {fuel : Nat} {l : Array Bool} {a : Act} {w : World} (li lj : Array Bool) (hi : ops[i]? = some oi) (hj : ops[j]? = some oj) (hNi : oi.dst = Ni) (hNj : oj.dst = Nj)
  (hc : (Region.ready md ops l == [i, j] && l.setIfInBounds i true == li && l.setIfInBounds j true == lj) = true) (hdi : i ∈ ds) (hdj : j ∈ ds)
  (h1 : ∀ K : Act → World → Prop, Shut (∀ a' w', wpAnyLast P md ops Q S ds fuel li a' w' → K a' w') → if Region.wanted oi (yielded ops a.tmps) = true then Oper.wp P oi a w K Q else K (a.put Ni undef) w)
  (h2 : ∀ K : Act → World → Prop, Shut (∀ a' w', wpAnyLast P md ops Q S ds fuel lj a' w' → K a' w') → if Region.wanted oj (yielded ops a.tmps) = true then Oper.wp P oj a w K Q else K (a.put Nj undef) w) :
  wpAnyLast P md ops Q S ds (fuel + 1) l a w := by
 subst hNi
 subst hNj
 simp only [Bool.and_eq_true, beq_iff_eq] at hc
 obtain ⟨⟨h3, h4⟩, h5⟩ := hc
 subst h4
 subst h5
 exact wpAnyLast_ready h3 (by simp) (AllReadyL.cons_last hi hdi (fun K hK => h1 K hK) (AllReadyL.cons_last hj hdj (fun K hK => h2 K hK) AllReadyL.nil))
end
end Go.Proofs.Ytpodpmjlkbbkoaa.P
