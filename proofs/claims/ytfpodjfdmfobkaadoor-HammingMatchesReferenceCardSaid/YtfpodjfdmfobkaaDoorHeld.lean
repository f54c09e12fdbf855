/- Of no program: a region whose operations read, compute, or call what leaves everything below a bound as it was: one walk in the order of the text serves every order. -/
import Derived.BigQuiet
import Derived.Lib.Hide
import Derived.Below
namespace Go.Proofs.YtfpodjfdmfobkaaDoor
open Go Go.RowKit

/-- A world that below B is as w was. -/
structure Ext (B : Nat) (w : World) where
  val : World
  below : Below B w val
def Ext.here (B : Nat) (w : World) : Ext B w := ⟨w, Below.refl B w⟩
instance Ext.some (B : Nat) (w : World) : Nonempty (Ext B w) := ⟨⟨w, Below.refl B w⟩⟩

section
variable {P : Program} {ops : Array Oper} {C : World → Prop}
theorem wpList_of_quiet {Q : Act → Prop} {Q' : Exit → Act → World → Prop} (hQ : ∀ a w, C w → Q a → Q' .normal a w) :
    ∀ (l : List Oper) (a : Act) (w : World), C w → wpQuiet P ops C Q l a → wpList P ops Q' l a w
  | [], a, w, hC, h => hQ a w hC h
  | o :: l, a, w, hC, h => by
    unfold wpQuiet at h
    unfold wpList
    split
    · rename_i hw; rw [if_pos hw] at h
      exact .inl (Oper.wp_of_quiet hC (fun a' w' hC' h' => wpList_of_quiet hQ l a' w' hC' h') h)
    · rename_i hw; rw [if_neg hw] at h
      exact wpList_of_quiet hQ l _ w hC h

theorem wp_region_held {id : Nat} {Q : Exit → Act → World → Prop} {a : Act} {w w0 : World} {l : List Oper} {B : Nat} (x0 : Ext B w0) (hx : x0.val = w) (hm : P.follows .mixedOrders = true) (hB : Region.lexB .any l.toArray = true)
    (h : wpQuiet P l.toArray (fun w' => ∃ x : Ext B w0, w' = x.val) (fun a' => ∀ w', (∃ x : Ext B w0, w' = x.val) → Q .normal a' w') l a) : (Code.region id l.toArray true).wp P Q a w :=
  wp_region_quiet (C := fun w' => ∃ x : Ext B w0, w' = x.val) hm hB ⟨⟨w.drew, hx ▸ x0.below.drew⟩, rfl⟩ (by simpa using h)
theorem wp_region_held' {id : Nat} {Q : Exit → Act → World → Prop} {a : Act} {w w0 : World} {l : List Oper} {B : Nat} (x0 : Ext B w0) (hx : x0.val = w)
    (h : wpQuiet P l.toArray (fun w' => ∃ x : Ext B w0, w' = x.val) (fun a' => ∀ w', (∃ x : Ext B w0, w' = x.val) → Q .normal a' w') l a) : (Code.region id l.toArray false).wp P Q a w :=
  wp_region_lit (wpList_of_quiet (C := fun w' => ∃ x : Ext B w0, w' = x.val) (fun _ _ hC hq => hq _ hC) l a w ⟨x0, hx.symm⟩ h)
end

theorem Ext.call {P : Program} {f : FuncId} {args : Array Value} {B : Nat} {w : World} {v : Value} (x : Ext B w) (hB : B ≤ w.heap.size)
    (h : Calls P f args x.val fun e w' => e = .returned v ∧ Below x.val.heap.size x.val w') : Calls P f args x.val fun e w'' => e = .returned v ∧ ∃ y : Ext B w, w'' = y.val :=
  h.mono fun _ w' ⟨he, hb⟩ => ⟨he, ⟨w', x.below.trans (hb.mono (Nat.le_trans hB x.below.size))⟩, rfl⟩
theorem Ext.same {P : Program} {f : FuncId} {args : Array Value} {B : Nat} {w : World} {v : Value} (x : Ext B w)
    (h : Calls P f args x.val fun e w' => e = .returned v ∧ x.val = w') : Calls P f args x.val fun e w'' => e = .returned v ∧ ∃ y : Ext B w, w'' = y.val :=
  h.mono fun _ _ ⟨he, hb⟩ => ⟨he, x, hb.symm⟩
theorem Ext.cell {B : Nat} {w : World} (x : Ext B w) {p : Addr} (h : p.block < B) : x.val.cell? p = w.cell? p := x.below.cell h
end Go.Proofs.YtfpodjfdmfobkaaDoor
