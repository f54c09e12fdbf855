/- slices.Grow of nil: an empty row of the caller's own. -/
import Derived.Test.YtapjobndmmkanaaGreatAZ
import Derived.Test.YtapjobndmmkanaaGreatSx
import Derived.Test.YtapjobndmmkanaaGreatTy
import Derived.Sort.OwnSortedInts
import Derived.Maps.RangeWalk
import Derived.Maps.AppendAt
import Derived.WalkKit
import Derived.OwnWalk
import Derived.Shelf.Spec.SlicesGrow
set_option linter.unusedVariables false
set_option linter.unusedSimpArgs false
namespace Go.Proofs.YtapjobndmmkanaaGreat
open Go Go.RowKit Go.Shelf Go.Maps Go.Sort
open Go.WideElems (Fit rd rg rg_of)
theorem Tryz.GL : (Tryz.prog.info? 3).map (fun i => (i.zero, i.size, i.bytes)) = some (some (.int .i64 0), 1, 8) := by kernel_rfl
def tQ : Ren where
  f x := match x with
    | 4 => 184
    | n => n
  t x := match x with
    | 22 => 28
    | 25 => 3
    | 3 => 3
    | 4 => 4
    | 9 => 9
    | 20 => 20
    | 0 => 0
    | n => n
  g x := x
theorem jdg : Lays8.n4 Tryz.prog tQ :=
  { mixed := by kernel_rfl, f4 := ⟨Tryz.f184.name, by kernel_rfl, Tryz.func184.trans (congrArg some (by kernel_rfl))⟩
    t0 := Tryz.underlying0, a0 := Tryz.isAgg0, z0 := Tryz.sizeOf0, v0 := Tryz.zeroValue0, t3 := Tryz.underlying3,
    a3 := Tryz.isAgg3, z3 := Tryz.sizeOf3, v3 := Tryz.zeroValue3, t4 := Tryz.underlying4, a4 := Tryz.isAgg4, z4 := Tryz.sizeOf4,
    v4 := Tryz.zeroValue4, t9 := Tryz.underlying9, a9 := Tryz.isAgg9, z9 := Tryz.sizeOf9, v9 := Tryz.zeroValue9,
    t20 := Tryz.underlying20, a20 := Tryz.isAgg20, z20 := Tryz.sizeOf20, v20 := Tryz.zeroValue20, t22 := Tryz.underlying28,
    a22 := Tryz.isAgg28, z22 := Tryz.sizeOf28, v22 := Tryz.zeroValue28 }
theorem zJ {vals : Array Value} (h : vals.size = 2) : vals = #[vals.getD 0 undef, vals.getD 1 undef] := by
  apply Array.ext
  · simpa using h
  · intro i hi _
    match i, hi with
    | 0, hi => simp [Array.getD, h]
    | 1, hi => simp [Array.getD, h]
    | n + 2, hi => omega
theorem ZD (n : Nat) (hn : n ≤ 1000000) : OZ Tryz.prog 184 [.val (.slice none 0 0), iD n] (fun id => .os 1 id 0 0) (.cells []) := by
  refine ⟨by kernel_rfl, fun w O vals hs hx hO => ?_⟩
  have hv := zJ (vals := vals) (by simpa using hs)
  have h0 := hx 0 _ rfl
  have h1 := hx 1 _ rfl
  rw [hv]; clear hv hx
  generalize vals.getD 0 undef = v0 at h0 ⊢
  generalize vals.getD 1 undef = v1 at h1 ⊢
  cases h0
  cases h1
  rcases Nat.eq_zero_or_pos n with rfl | hp
  · have hc : Calls Tryz.prog 184 #[.slice none 0 0, .int .i64 (0 : Nat)] w _ := Any8.slices_Grow_room jdg none 0 0 0 w (bJ _) (by omega) (by omega) (by omega)
    refine hc.mono fun e w' ⟨he, hw⟩ => ⟨_, none, he, hw ▸ Below.refl _ _, fun q hq => (by cases hq), fun pl n dX qM ho => ⟨.inl ⟨rfl, qM⟩, .lU _ _ _ _⟩⟩
  · obtain ⟨i0, hi, ju, Pb, El⟩ := info_parts Tryz.GL
    have hc : Calls Tryz.prog 184 #[.slice none 0 0, .int .i64 (n : Nat)] w _ := Any8.slices_Grow_grow jdg i0 (.int .i64 0) hi ju (by omega) none 0 0 n [] w (bJ _) (by omega) (by rw [El]; omega) (by omega) (by simp) (fun _ => rfl) (fun a ha => by cases ha)
    refine hc.mono fun e w' ⟨he, hw⟩ => ⟨_, some (w.heap.size, 0), he, ?_, fun q hq => (by cases hq; exact bJ _), fun pl m dX qM ho => ?_⟩
    · subst hw
      exact (Below.refl w.heap.size w).drew.alloc (bJ _) _
    · generalize hG : grownCap w (0 + n) 0 (tQ.t 25) = G at he hw
      have hGn : 0 + n ≤ G := by rw [← hG]; exact grownCap_ge w _ _ _
      have hGm : G ≤ maxLen := by rw [← hG]; exact grownCap_le_maxLen w (0 + n) 0 3 (by unfold maxLen; omega)
      have hgg : w'.heap[w.heap.size]? = some (.cells (([] : List Value).toArray ++ Builtin.zeroCells (Value.int .i64 0).cells (0 + n - 0) ++ Builtin.zeroCells (Value.int .i64 0).cells (G - (0 + n))) 3 (0, 0)) := by
        rw [hw]; exact heap_alloc_new _ _
      have gy : (([] : List Value).toArray ++ Builtin.zeroCells (Value.int .i64 0).cells (0 + n - 0) ++ Builtin.zeroCells (Value.int .i64 0).cells (G - (0 + n))).size = G := by
        have hz : ∀ k, (Builtin.zeroCells (Value.int .i64 0).cells k).size = k := fun k => by
          have h1 : (Value.int IntKind.i64 0).cells.size = 1 := rfl
          simp [size_zeroCells, h1]
        simp only [Array.size_append, hz]
        simp; omega
      clear hw hc
      refine ⟨.inr ⟨w.heap.size, 0, _, _, qM, hgg, by simp, fun j x hj => by simp at hj⟩, ?_⟩
      exact .os 1 m 0 0 G w.heap.size 0 G 3 qM (by unfold World.shape?; rw [hgg]; exact congrArg (fun q => some ((3 : TypeId), q)) gy) (cF _) hGm (by omega)
end Go.Proofs.YtapjobndmmkanaaGreat
