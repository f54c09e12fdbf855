/- Of no program: the abstract machine's states, and what an abstract state says of a frame and a world. -/
import Derived.Test.YtfpcailbobjfnaaA1
set_option linter.unusedVariables false
set_option linter.unusedSimpArgs false
namespace Go.Proofs.Ytfpcailbobjfnaa
open Go Go.RowKit

abbrev Fr := Nat → AV
def Fr.put (τ : Fr) (dst : Option Tmp) (x : AV) : Fr :=
  match dst with
  | some d => fun t => if t = d then x else τ t
  | none => τ
def evalA (τ : Fr) : Operand → AV
  | .tmp t => τ t
  | .const v => .d (.val v)
  | .global g => .d (.val (.pointer (some ⟨g, 0, none⟩)))
  | .func f => .d (.val (.func (.func f) #[] #[]))
/-- What is fixed throughout a call: the blocks of others, the world at the start, the blocks that may be written, the frame's size. -/
structure Cx where
  E : Nat → Prop
  w0 : World
  O0 : Nat → Prop
  nt : Nat
  pl0 : List (Option (Nat × Nat)) := []
structure RelS (c : Cx) (τ : Fr) (H : AHeap) (sh : List (Nat × Nat)) (pl : List (Option (Nat × Nat))) (a : Act) (w : World) : Prop where
  h : RelH c.E w pl H sh
  stp : Stp c.O0 c.w0 w
  own0 : ∀ (id : Nat) (o : AObj) (p : Nat × Nat), H[id]? = some o → o.live = true → pl[id]? = some (some p) → c.O0 p.1 ∨ c.w0.heap.size ≤ p.1
  ext : ∀ b, c.E b → b < c.w0.heap.size
  fr : ∀ t, Rd w pl (ownB c.E H pl) (τ t) (a.tmps.getD t undef)
  size : a.tmps.size = c.nt
  defs : a.defers = []
  keep : ∀ (i : Nat) (p : Nat × Nat), c.pl0[i]? = some (some p) → pl[i]? = some (some p)
def R (c : Cx) (τ : Fr) (H : AHeap) (sh : List (Nat × Nat)) (a : Act) (w : World) : Prop := ∃ pl, RelS c τ H sh pl a w

theorem RelS.eval {c : Cx} {τ : Fr} {H : AHeap} {sh : List (Nat × Nat)} {pl : List (Option (Nat × Nat))} {a : Act} {w : World} (h : RelS c τ H sh pl a w) (x : Operand) : Rd w pl (ownB c.E H pl) (evalA τ x) (a.eval x) := by
  cases x with
  | tmp t => exact h.fr t
  | const v => exact .d _ _ (.val _)
  | global g => exact .d _ _ (.val _)
  | func f => exact .d _ _ (.val _)
theorem RelS.put {c : Cx} {τ : Fr} {H : AHeap} {sh : List (Nat × Nat)} {pl : List (Option (Nat × Nat))} {a : Act} {w : World} (h : RelS c τ H sh pl a w) (dst : Option Tmp) (hd : ∀ d, dst = some d → d < c.nt) {x : AV} {v : Value} (hx : Rd w pl (ownB c.E H pl) x v) :
    RelS c (τ.put dst x) H sh pl (a.put dst v) w := by
  cases dst with
  | none => exact h
  | some d =>
    refine ⟨h.h, h.stp, h.own0, h.ext, fun t => ?_, by simpa [Act.put] using h.size, h.defs, h.keep⟩
    have hd' := hd d rfl
    simp only [Fr.put, Act.put]
    by_cases ht : t = d
    · subst ht
      have : (a.tmps.setIfInBounds t v).getD t undef = v := by
        simp [Array.getD, h.size, hd']
      rw [if_pos rfl, this]; exact hx
    · have : (a.tmps.setIfInBounds d v).getD t undef = a.tmps.getD t undef := by
        simp [Array.getD_eq_getD_getElem?, Array.getElem?_setIfInBounds_ne (Ne.symm ht)]
      rw [if_neg ht, this]; exact h.fr t
/-- The blocks of live objects. -/
def ownL (H : AHeap) (pl : List (Option (Nat × Nat))) (b : Nat) : Prop := ∃ (id : Nat) (o : AObj) (c : Nat), H[id]? = some o ∧ o.live = true ∧ pl[id]? = some (some (b, c))
theorem RelH.block_lt {E : Nat → Prop} {w : World} {pl : List (Option (Nat × Nat))} {H : AHeap} {sh : List (Nat × Nat)} (h : RelH E w pl H sh) {id : Nat} {o : AObj} {p : Nat × Nat} (ho : H[id]? = some o) (hl : o.live = true) (hp : pl[id]? = some (some p)) : p.1 < w.heap.size := by
  have := h.obj id o ho
  cases o with
  | free => cases hl
  | dead => cases hl
  | cells cs =>
    rcases this with ⟨_, h1⟩ | ⟨b, base, arr, t, h1, h2, _⟩ <;> rw [hp] at h1 <;> cases h1
    exact (Array.getElem?_eq_some_iff.1 h2).1
  | map es clock =>
    obtain ⟨b, base, ms, h1, h2, _⟩ := this
    rw [hp] at h1; cases h1
    exact (Array.getElem?_eq_some_iff.1 h2).1
/-- The world goes on, the heap of objects too; the frame stays. -/
theorem RelS.step {c : Cx} {τ : Fr} {H H' : AHeap} {sh sh' : List (Nat × Nat)} {pl pl' : List (Option (Nat × Nat))} {a : Act} {w w' : World} (h : RelS c τ H sh pl a w) (hs : Stp (ownL H pl) w w') (hp : ∀ (i : Nat) (p : Nat × Nat), pl[i]? = some (some p) → pl'[i]? = some (some p))
    (ho : ∀ b, ownL H' pl' b → ownL H pl b ∨ w.heap.size ≤ b) (hh : RelH c.E w' pl' H' sh') : RelS c τ H' sh' pl' a w' := by
  have hO : ∀ b, b < c.w0.heap.size → ownL H pl b → c.O0 b := fun b hb ⟨id, o, c', h1, h2, h3⟩ => by
    rcases h.own0 id o _ h1 h2 h3 with h | h
    · exact h
    · simp only at h; omega
  refine ⟨hh, h.stp.trans hs hO, fun id o p h1 h2 h3 => ?_, h.ext, fun t => (h.fr t).mono hs.size (fun b hb hn => hs.block b hb fun hb' => hn (.inr hb')) (fun b hb hb' => ?_) hs.shape hp, h.size, h.defs, fun i p hi => hp i p (h.keep i p hi)⟩
  · rcases ho p.1 ⟨id, o, p.2, h1, h2, h3⟩ with ⟨id', o', c', k1, k2, k3⟩ | hge
    · exact h.own0 id' o' (p.1, c') k1 k2 k3
    · exact .inr (Nat.le_trans h.stp.size hge)
  · rcases hb' with hb' | hb'
    · exact .inl hb'
    · rcases ho b hb' with h' | h'
      · exact .inr h'
      · omega
theorem R.put {c : Cx} {τ : Fr} {H : AHeap} {sh : List (Nat × Nat)} {pl : List (Option (Nat × Nat))} {a : Act} {w : World} (h : RelS c τ H sh pl a w) (dst : Option Tmp) (hd : ∀ d, dst = some d → d < c.nt) {x : AV} {v : Value} (hx : Rd w pl (ownB c.E H pl) x v) : R c (τ.put dst x) H sh (a.put dst v) w :=
  ⟨pl, h.put dst hd hx⟩

/-! ### Types, in the machine's words -/
section
variable (P : Program)
def szO (t : TypeId) : Option Nat := (P.info? t).map (·.size)
def byO (t : TypeId) : Option Nat := (P.info? t).map (·.bytes)
def agO (t : TypeId) : Option Bool := (P.underlying t).map fun | .struct _ => true | .array _ _ => true | _ => false
/-- A field's place, of a field that takes room. -/
def foO (t : TypeId) (f : Nat) : Option Nat :=
  match P.underlying t with
  | some (.struct fs) => match fs[f]? with
    | some x => match szO P x.type with
      | some (_ + 1) => some x.offset
      | _ => none
    | none => none
  | _ => none
/-- A field's place, size, and whether it has parts. -/
def ftO (t : TypeId) (f : Nat) : Option (Nat × Nat × Bool) :=
  match P.underlying t with
  | some (.struct fs) => match fs[f]? with
    | some x => match szO P x.type, agO P x.type with
      | some n, some g => some (x.offset, n, g)
      | _, _ => none
    | none => none
  | _ => none
/-- Elements: how many (of an array), their type and size. -/
def elO (t : TypeId) : Option (Option Nat × TypeId × Nat) :=
  match P.underlying t with
  | some (.slice e) => (szO P e).map fun n => (none, e, n)
  | some (.array k e) => (szO P e).map fun n => (some k, e, n)
  | _ => none
def zcO (t : TypeId) : Option (List D) := ((P.info? t).bind (·.zero)).map fun z => z.cells.toList.map D.val
def entO (f : FuncId) : Bool := match P.funcs[f]? with | some fn => fn.name != "runtime.NumGoroutine" && fn.body.isSome | none => false
end
/-- k cells from i on. -/
def takeD {α : Type} (cs : List α) (i k : Nat) : Option (List α) := if i + k ≤ cs.length then some ((cs.drop i).take k) else none
/-- The cells that a value takes. -/
def asCells : AV → Option (List AV)
  | .agg cs => if cs.all AV.one then some cs else none
  | .d (.agg cs) => if cs.all D.one then some (cs.map .d) else none
  | x => if x.one then some [x] else none
/-- An abstract value that is data. -/
def AV.toD : AV → Option D
  | .d (.val (.slice none 0 0)) => some (.fs [] 0)
  | .d x => some x
  | .agg cs => (toDs cs).map .agg
  | .clo fn fi ca => match toDs fi, toDs ca with
    | some x, some y => some (.clo fn x y)
    | _, _ => none
  | _ => none
where toDs : List AV → Option (List D)
  | [] => some []
  | x :: l => match x.toD, toDs l with
    | some y, some m => some (y :: m)
    | _, _ => none
end Go.Proofs.Ytfpcailbobjfnaa
