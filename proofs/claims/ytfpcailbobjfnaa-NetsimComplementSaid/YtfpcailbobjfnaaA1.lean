/- Of no program: an abstract machine over data. First part: abstract values, and how memory reads as them. -/
import Derived.Below
import Derived.Orders
import Derived.WalkKit
import Derived.Laws.AppendOwn
import Derived.Laws.OwnMore
import Derived.OwnWalk
import Derived.Lib.Hide
set_option linter.unusedVariables false
set_option linter.unusedSimpArgs false
namespace Go.Proofs.Ytfpcailbobjfnaa
open Go Go.RowKit

/-- Data: what a value reads as, whatever is written later. -/
inductive D where
  | val (v : Value)
  | fs (cs : List D) (n : Nat)
  | fp (cs : List D) (i : Nat)
  | agg (cs : List D)
  | clo (fn : Fn) (fi ca : List D)
  deriving Inhabited
/-- Abstract values: data; slices of, and pointers into, objects of the call's own; parts of these. -/
inductive AV where
  | any
  | d (x : D)
  | os (k id off n : Nat)
  | op (id off : Nat)
  | om (id : Nat)
  | agg (cs : List AV)
  | tup (vs : List AV)
  | clo (fn : Fn) (fi ca : List AV)
  deriving Inhabited
def D.one : D → Bool
  | .val v => v.oneCell'
  | .agg _ => false
  | _ => true
def AV.one : AV → Bool
  | .any | .agg _ | .tup _ => false
  | .d x => x.one
  | _ => true

/-- In world w, with these blocks left out, a value reads as data. -/
inductive RdD (w : World) (own : Nat → Prop) : D → Value → Prop where
  | val (v : Value) : RdD w own (.val v) v
  | f0 (a : Option Addr) (cap : Nat) (hm : cap ≤ maxLen) (hn : a = none → cap = 0) : RdD w own (.fs [] 0) (.slice a 0 cap)
  | fs (cs : List D) (n cap b off : Nat) (f : Nat → Value) (hb : b < w.heap.size) (ho : ¬ own b) (hn : n ≤ cap) (hm : cap ≤ maxLen)
      (hc : ∀ j x, cs[j]? = some x → w.cell? ⟨b, off + j, none⟩ = some (f j)) (h1 : ∀ j x, cs[j]? = some x → (f j).oneCell' = true)
      (hx : ∀ j x, cs[j]? = some x → RdD w own x (f j)) : RdD w own (.fs cs n) (.slice (some ⟨b, off, none⟩) n cap)
  | fp (cs : List D) (i b off : Nat) (f : Nat → Value) (hb : b < w.heap.size) (ho : ¬ own b)
      (hc : ∀ j x, cs[j]? = some x → w.cell? ⟨b, off + j, none⟩ = some (f j)) (h1 : ∀ j x, cs[j]? = some x → (f j).oneCell' = true)
      (hx : ∀ j x, cs[j]? = some x → RdD w own x (f j)) : RdD w own (.fp cs i) (.pointer (some ⟨b, off + i, none⟩))
  | agg (cs : List D) (vs : Array Value) (hl : vs.size = cs.length) (hx : ∀ j x, cs[j]? = some x → RdD w own x (vs.getD j undef)) : RdD w own (.agg cs) (.agg vs)
  | clo (fn : Fn) (fi ca : List D) (vs us : Array Value) (hl : vs.size = fi.length) (hx : ∀ j x, fi[j]? = some x → RdD w own x (vs.getD j undef))
      (hl' : us.size = ca.length) (hx' : ∀ j x, ca[j]? = some x → RdD w own x (us.getD j undef)) : RdD w own (.clo fn fi ca) (.func fn vs us)
theorem RdD.one {w : World} {own : Nat → Prop} {x : D} {v : Value} (h : RdD w own x v) (h1 : x.one = true) : v.oneCell' = true := by
  cases h <;> first | exact h1 | rfl | cases h1
theorem cell_of_eq {w w' : World} {b o : Nat} (h : w'.heap[b]? = w.heap[b]?) : w'.cell? ⟨b, o, none⟩ = w.cell? ⟨b, o, none⟩ := World.cell?_of_block (w := w) (a := ⟨b, o, none⟩) h
theorem RdD.mono {w w' : World} {own own' : Nat → Prop} {x : D} {v : Value} (h : RdD w own x v) (hs : w.heap.size ≤ w'.heap.size)
    (hb : ∀ b, b < w.heap.size → ¬ own b → w'.heap[b]? = w.heap[b]?) (hw : ∀ b, b < w.heap.size → own' b → own b) : RdD w' own' x v := by
  induction h with
  | val v => exact .val v
  | f0 a cap hm hn => exact .f0 a cap hm hn
  | fs cs n cap b off f h1 h2 hn hm hc h3 _ ih =>
    exact .fs cs n cap b off f (Nat.lt_of_lt_of_le h1 hs) (fun ho => h2 (hw b h1 ho)) hn hm (fun j x hj => (cell_of_eq (hb b h1 h2)).trans (hc j x hj)) h3 ih
  | fp cs i b off f h1 h2 hc h3 _ ih =>
    exact .fp cs i b off f (Nat.lt_of_lt_of_le h1 hs) (fun ho => h2 (hw b h1 ho)) (fun j x hj => (cell_of_eq (hb b h1 h2)).trans (hc j x hj)) h3 ih
  | agg cs vs hl _ ih => exact .agg cs vs hl ih
  | clo fn fi ca vs us hl _ hl' _ ih ih' => exact .clo fn fi ca vs us hl ih hl' ih'

/-- The same of an abstract value; pl: where the objects lie. -/
inductive Rd (w : World) (pl : List (Option (Nat × Nat))) (own : Nat → Prop) : AV → Value → Prop where
  | any (v : Value) : Rd w pl own .any v
  | d (x : D) (v : Value) (h : RdD w own x v) : Rd w pl own (.d x) v
  | os (k id off n cap b base sz : Nat) (t : TypeId) (hp : pl[id]? = some (some (b, base))) (ht : w.shape? b = some (t, sz)) (hn : n ≤ cap) (hm : cap ≤ maxLen) (hz : base + off + cap * k ≤ sz) :
      Rd w pl own (.os k id off n) (.slice (some ⟨b, base + off, none⟩) n cap)
  | os0 (k id off : Nat) (a : Option Addr) : Rd w pl own (.os k id off 0) (.slice a 0 0)
  | op (id off b base : Nat) (hp : pl[id]? = some (some (b, base))) : Rd w pl own (.op id off) (.pointer (some ⟨b, base + off, none⟩))
  | om (id b base : Nat) (hp : pl[id]? = some (some (b, base))) : Rd w pl own (.om id) (.map (some b))
  | agg (cs : List AV) (vs : Array Value) (hl : vs.size = cs.length) (hx : ∀ j x, cs[j]? = some x → Rd w pl own x (vs.getD j undef)) : Rd w pl own (.agg cs) (.agg vs)
  | tup (cs : List AV) (vs : Array Value) (hl : vs.size = cs.length) (hx : ∀ j x, cs[j]? = some x → Rd w pl own x (vs.getD j undef)) : Rd w pl own (.tup cs) (.tuple vs)
  | clo (fn : Fn) (fi ca : List AV) (vs us : Array Value) (hl : vs.size = fi.length) (hx : ∀ j x, fi[j]? = some x → Rd w pl own x (vs.getD j undef))
      (hl' : us.size = ca.length) (hx' : ∀ j x, ca[j]? = some x → Rd w pl own x (us.getD j undef)) : Rd w pl own (.clo fn fi ca) (.func fn vs us)
theorem Rd.one {w : World} {pl : List (Option (Nat × Nat))} {own : Nat → Prop} {x : AV} {v : Value} (h : Rd w pl own x v) (h1 : x.one = true) : v.oneCell' = true := by
  cases h <;> first | exact RdD.one (by assumption) h1 | rfl | cases h1
theorem Rd.mono {w w' : World} {pl pl' : List (Option (Nat × Nat))} {own own' : Nat → Prop} {x : AV} {v : Value} (h : Rd w pl own x v) (hs : w.heap.size ≤ w'.heap.size)
    (hb : ∀ b, b < w.heap.size → ¬ own b → w'.heap[b]? = w.heap[b]?) (hw : ∀ b, b < w.heap.size → own' b → own b)
    (hsh : ∀ b s, w.shape? b = some s → w'.shape? b = some s) (hp : ∀ (i : Nat) (p : Nat × Nat), pl[i]? = some (some p) → pl'[i]? = some (some p)) : Rd w' pl' own' x v := by
  induction h with
  | any v => exact .any v
  | d x v h => exact .d x v (h.mono hs hb hw)
  | os k id off n cap b base sz t h1 h2 h3 h4 h5 => exact .os k id off n cap b base sz t (hp _ _ h1) (hsh _ _ h2) h3 h4 h5
  | os0 k id off a => exact .os0 k id off a
  | op id off b base h1 => exact .op id off b base (hp _ _ h1)
  | om id b base h1 => exact .om id b base (hp _ _ h1)
  | agg cs vs hl _ ih => exact .agg cs vs hl ih
  | tup cs vs hl _ ih => exact .tup cs vs hl ih
  | clo fn fi ca vs us hl _ hl' _ ih ih' => exact .clo fn fi ca vs us hl ih hl' ih'

/-- Objects of the call's own: cells, a map, or nothing that may still be touched. -/
inductive AObj where
  | free
  | dead
  | cells (cs : List AV)
  | map (es : List (Value × Nat × AV)) (clock : Nat)
  deriving Inhabited
def AObj.live : AObj → Bool
  | .free | .dead => false
  | _ => true
abbrev AHeap := List AObj
/-- Blocks that are not read as data: those of the world outside, and the objects' own. -/
def ownB (E : Nat → Prop) (H : AHeap) (pl : List (Option (Nat × Nat))) (b : Nat) : Prop := E b ∨ ∃ (id : Nat) (o : AObj) (c : Nat), H[id]? = some o ∧ o.live = true ∧ pl[id]? = some (some (b, c))
/-- A map's entries read so; no key stands twice. -/
def MapRd (w : World) (pl : List (Option (Nat × Nat))) (own : Nat → Prop) (ms : Array MapEntry) (es : List (Value × Nat × AV)) : Prop :=
  ms.size = es.length ∧ (es.map (·.1)).Nodup ∧ ∀ (j : Nat) (e : MapEntry) (k : Value) (n : Nat) (x : AV), ms[j]? = some e → es[j]? = some (k, n, x) → e.key = k ∧ e.born = n ∧ Rd w pl own x e.val
def ObjAt (w : World) (pl : List (Option (Nat × Nat))) (own : Nat → Prop) (id : Nat) : AObj → Prop
  | .free => pl[id]? = some none
  | .dead => True
  | .cells cs => (cs = [] ∧ pl[id]? = some none) ∨ ∃ b base arr t, pl[id]? = some (some (b, base)) ∧ w.heap[b]? = some (.cells arr t (0, 0)) ∧ base + cs.length ≤ arr.size ∧
      ∀ j x, cs[j]? = some x → Rd w pl own x (arr.getD (base + j) undef) ∧ (arr.getD (base + j) undef).oneCell' = true
  | .map es clock => ∃ b base ms, pl[id]? = some (some (b, base)) ∧ w.heap[b]? = some (.map ms clock) ∧ MapRd w pl own ms es
/-- The objects lie in memory, apart from each other but for pairs that share (behind an append, till the region's end). -/
structure RelH (E : Nat → Prop) (w : World) (pl : List (Option (Nat × Nat))) (H : AHeap) (sh : List (Nat × Nat)) : Prop where
  len : pl.length = H.length
  obj : ∀ (id : Nat) (o : AObj), H[id]? = some o → ObjAt w pl (ownB E H pl) id o
  dis : ∀ (i j : Nat) (oi oj : AObj) (p q : Nat × Nat), H[i]? = some oi → H[j]? = some oj → oi.live = true → oj.live = true → i ≠ j → (i, j) ∉ sh → (j, i) ∉ sh → pl[i]? = some (some p) → pl[j]? = some (some q) → p.1 ≠ q.1
  ext : ∀ (i : Nat) (o : AObj) (p : Nat × Nat), H[i]? = some o → o.live = true → pl[i]? = some (some p) → ¬ E p.1
  shl : ∀ p, p ∈ sh → p.1 < H.length ∧ p.2 < H.length
  shr : ∀ (i j : Nat) (ci cj : List AV) (p q : Nat × Nat), (i, j) ∈ sh → H[i]? = some (.cells ci) → H[j]? = some (.cells cj) → pl[i]? = some (some p) → pl[j]? = some (some q) → p.1 = q.1 → q.2 + cj.length ≤ p.2 + ci.length
/-- From w to w' only these blocks have turned, and new ones have come. -/
structure Stp (O : Nat → Prop) (w w' : World) : Prop where
  os : w'.os = w.os
  tape : w'.tape = w.tape
  output : w'.output = w.output
  size : w.heap.size ≤ w'.heap.size
  block : ∀ b, b < w.heap.size → ¬ O b → w'.heap[b]? = w.heap[b]?
  shape : ∀ b s, w.shape? b = some s → w'.shape? b = some s
theorem Stp.refl (O : Nat → Prop) (w : World) : Stp O w w := ⟨rfl, rfl, rfl, Nat.le_refl _, fun _ _ _ => rfl, fun _ _ h => h⟩
theorem Stp.trans {O O' : Nat → Prop} {w w1 w2 : World} (h : Stp O w w1) (k : Stp O' w1 w2) (ho : ∀ b, b < w.heap.size → O' b → O b) : Stp O w w2 :=
  ⟨k.os.trans h.os, k.tape.trans h.tape, k.output.trans h.output, Nat.le_trans h.size k.size, fun b hb hn => (k.block b (Nat.lt_of_lt_of_le hb h.size) fun h' => hn (ho b hb h')).trans (h.block b hb hn), fun b s hs => k.shape b s (h.shape b s hs)⟩
theorem Stp.mono {O O' : Nat → Prop} {w w' : World} (h : Stp O w w') (ho : ∀ b, b < w.heap.size → O b → O' b) : Stp O' w w' := ⟨h.os, h.tape, h.output, h.size, fun b hb hn => h.block b hb fun h' => hn (ho b hb h'), h.shape⟩
end Go.Proofs.Ytfpcailbobjfnaa
