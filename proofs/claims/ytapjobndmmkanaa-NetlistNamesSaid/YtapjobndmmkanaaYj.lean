/- slices.Grow of nil: an empty row of the caller's own. -/
import Derived.Test.YtapjobndmmkanaaAZ
import Derived.Test.YtapjobndmmkanaaSx
import Derived.Test.YtapjobndmmkanaaTy
import Derived.Sort.OwnSortedInts
import Derived.Maps.RangeWalk
import Derived.Maps.AppendAt
import Derived.WalkKit
import Derived.OwnWalk
import Derived.Shelf.Spec.SlicesGrow
import Derived.Test.YtapjobndmmkanaaQr
import Derived.Test.YtapjobndmmkanaaYi
set_option linter.unusedVariables false
set_option linter.unusedSimpArgs false
namespace Go.Proofs.Ytapjobndmmkanaa
open Go Go.RowKit Go.Shelf Go.Maps Go.Sort
open Go.WideElems (Fit rd rg rg_of)
theorem Try.info3 : (Try.prog.info? 3).map (fun i => (i.zero, i.size, i.bytes)) = some (some (.int .i64 0), 1, 8) := by kernel_rfl
def growRen : Ren where
  f x := match x with
    | 4 => 144
    | n => n
  t x := match x with
    | 22 => 29
    | 25 => 3
    | 3 => 3
    | 4 => 4
    | 9 => 9
    | 20 => 20
    | 0 => 0
    | n => n
  g x := x
theorem jag : Lays8.n4 Try.prog growRen :=
  { mixed := by kernel_rfl, f4 := ⟨Try.f144.name, by kernel_rfl, Try.func144.trans (congrArg some (by kernel_rfl))⟩
    t0 := Try.underlying0, a0 := Try.isAgg0, z0 := Try.sizeOf0, v0 := Try.zeroValue0, t3 := Try.underlying3,
    a3 := Try.isAgg3, z3 := Try.sizeOf3, v3 := Try.zeroValue3, t4 := Try.underlying4, a4 := Try.isAgg4, z4 := Try.sizeOf4,
    v4 := Try.zeroValue4, t9 := Try.underlying9, a9 := Try.isAgg9, z9 := Try.sizeOf9, v9 := Try.zeroValue9,
    t20 := Try.underlying20, a20 := Try.isAgg20, z20 := Try.sizeOf20, v20 := Try.zeroValue20, t22 := Try.underlying29,
    a22 := Try.isAgg29, z22 := Try.sizeOf29, v22 := Try.zeroValue29 }
theorem zt9 {vals : Array Value} (h : vals.size = 2) : vals = #[vals.getD 0 undef, vals.getD 1 undef] := by
  apply Array.ext
  · simpa using h
  · intro i hi _
    match i, hi with
    | 0, hi => simp [Array.getD, h]
    | 1, hi => simp [Array.getD, h]
    | n + 2, hi => omega
theorem jou (n : Nat) (hn : n ≤ 1000000) : jfe Try.prog 144 [.val (.slice none 0 0), iD n] (fun id => .os 1 id 0 0) (.cells []) := by
  refine ⟨by kernel_rfl, fun w O vals hs hx hO => ?_⟩
  have hv := zt9 (vals := vals) (by simpa using hs)
  have h0 := hx 0 _ rfl
  have h1 := hx 1 _ rfl
  rw [hv]; clear hv hx
  generalize vals.getD 0 undef = v0 at h0 ⊢
  generalize vals.getD 1 undef = v1 at h1 ⊢
  cases h0
  cases h1
  rcases Nat.eq_zero_or_pos n with rfl | hp
  · have hc : Calls Try.prog 144 #[.slice none 0 0, .int .i64 (0 : Nat)] w _ := Any8.slices_Grow_room jag none 0 0 0 w (Nat.le_refl _) (by omega) (by omega) (by omega)
    refine hc.mono fun e w' ⟨he, hw⟩ => ⟨_, none, he, hw ▸ Below.refl _ _, fun q hq => (by cases hq), fun pl n own' hpl ho => ⟨.inl ⟨rfl, hpl⟩, .os0 _ _ _ _⟩⟩
  · obtain ⟨i0, hi, hz0, hz1, hz2⟩ := info_parts Try.info3
    have hc : Calls Try.prog 144 #[.slice none 0 0, .int .i64 (n : Nat)] w _ := Any8.slices_Grow_grow jag i0 (.int .i64 0) hi hz0 (by omega) none 0 0 n [] w (Nat.le_refl _) (by omega) (by rw [hz2]; omega) (by omega) (by simp) (fun _ => rfl) (fun a ha => by cases ha)
    refine hc.mono fun e w' ⟨he, hw⟩ => ⟨_, some (w.heap.size, 0), he, ?_, fun q hq => (by cases hq; exact Nat.le_refl _), fun pl m own' hpl ho => ?_⟩
    · subst hw
      exact (Below.refl w.heap.size w).drew.alloc (Nat.le_refl _) _
    · generalize hG : grownCap w (0 + n) 0 (growRen.t 25) = G at he hw
      have hGn : 0 + n ≤ G := by rw [← hG]; exact grownCap_ge w _ _ _
      have hGm : G ≤ maxLen := by rw [← hG]; exact grownCap_le_maxLen w (0 + n) 0 3 (by unfold maxLen; omega)
      have hgg : w'.heap[w.heap.size]? = some (.cells (([] : List Value).toArray ++ Builtin.zeroCells (Value.int .i64 0).cells (0 + n - 0) ++ Builtin.zeroCells (Value.int .i64 0).cells (G - (0 + n))) 3 (0, 0)) := by
        rw [hw]; exact heap_alloc_new _ _
      have hsz : (([] : List Value).toArray ++ Builtin.zeroCells (Value.int .i64 0).cells (0 + n - 0) ++ Builtin.zeroCells (Value.int .i64 0).cells (G - (0 + n))).size = G := by
        have hz : ∀ k, (Builtin.zeroCells (Value.int .i64 0).cells k).size = k := fun k => by
          have h1 : (Value.int IntKind.i64 0).cells.size = 1 := rfl
          simp [size_zeroCells, h1]
        simp only [Array.size_append, hz]
        simp; omega
      clear hw hc
      refine ⟨.inr ⟨w.heap.size, 0, _, _, hpl, hgg, by simp, fun j x hj => by simp at hj⟩, ?_⟩
      exact .os 1 m 0 0 G w.heap.size 0 G 3 hpl (by unfold World.shape?; rw [hgg]; exact congrArg (fun q => some ((3 : TypeId), q)) hsz) (Nat.zero_le _) hGm (by omega)
/- The library's Concat; a memory's address. -/
set_option maxRecDepth 100000
set_option maxHeartbeats 4000000
section
open Go Go.RowKit
theorem yc5 : (((type_of% @jbm) ∧ (type_of% @zd1)) ∧ ((type_of% @zey) ∧ ((type_of% @zc2) ∧ (type_of% @zee)))) := ⟨⟨@jbm, @zd1⟩, ⟨@zey, ⟨@zc2, @zee⟩⟩⟩
theorem jkt (l : List Int) : ∀ y ∈ l.map iD, y.plain = true := fun y hy => by
 obtain ⟨x, _, rfl⟩ := List.mem_map.1 hy; rfl
def zua (w : List (List Int)) : Nat := w.flatten.length
theorem zn2 {w : List (List Int)} {k : Nat} (h : k < w.length) : zua (w.take (k + 1)) = zua (w.take k) + (nth w k).length := by
 rw [zem h]; simp [zua]
theorem zub {w : List (List Int)} {k : Nat} (h : k < w.length) : (w.take (k + 1)).flatten = (w.take k).flatten ++ nth w k := by
 rw [zem h]; simp
theorem zgl (w : List (List Int)) (k : Nat) : zua (w.take k) ≤ zua w := by
 have h : (w.take k ++ w.drop k).flatten = w.flatten := by rw [List.take_append_drop]
 unfold zua
 rw [← h, List.flatten_append, List.length_append]; omega
theorem jca {p q : Prop} (hq : q) (h : p = q := by
 conv => lhs; simp -dsimp -implicitDefEqProofs (disch := first | assumption | omega | (simp only [r_z] <;> omega) | decide) only [r_r, ↓reduceIte, Nat.reduceEqDiff, Nat.reduceAdd, D.fix, Int.reduceToNat, Nat.reduceMul, Nat.reduceBNe, Nat.reduceBEq]) : p := h.mpr hq
theorem ze0 {p q : Prop} (hq : q) (h : p = q := by
 conv => lhs; simp -dsimp -implicitDefEqProofs (disch := first | assumption | omega | (simp only [r_z] <;> omega) | decide) only [r_r, ↓reduceIte, Nat.reduceEqDiff, Nat.reduceAdd, D.fix, Int.reduceToNat, Nat.reduceMul, Nat.reduceBNe, Nat.reduceBEq, yc5]) : p := h.mpr hq
theorem jov {m : List Nat} {τ τ' : Fr} {H H' : zae} (h2 : H = H') (h : zfq τ τ' := by
 repeat (first | exact zas _ | refine zao ?_ (by first | rfl | (simp [r_f]; done) | simp [r_f, *]))) : Rt m τ H τ' H' := Rt.end h h2
theorem js2 {p : Prop} (h : p := by
 first | rfl | (simp only [r_g, Nat.reduceAdd, ↓reduceIte, Nat.reduceEqDiff]; first | done | rfl)) : p := h
theorem jah (w : List (List Int)) (h1 : w.length ≤ 1000000) (h2 : zua w ≤ 1000000) : zbg Try.prog 133 [intssD w] (.d (intsD w.flatten)) := by
 refine za4 (fn := Try.f133) (by kernel_rfl) Try.func133 rfl (Nat.le_of_ble_eq_true rfl) fun c hc hp => ?_
 refine za9 (τ' := frL [(0, .d (intssD w))]) (by repeat (first | exact zas _ | refine zao ?_ (by first | rfl | (simp [r_f]; done) | simp [r_f, *]))) ?_
 refine szq hp (fun _ hZ => jca hZ) ?_
 refine szq hp (fun _ hZ => jca hZ) ?_
 refine zaa fun K3 hK3 => ?_
 refine szq hp (fun _ hZ => ze0 hZ) ?_
 refine zaf ?_
 refine zan hp (fun τ' H' mm => ∃ k, (k ≤ w.length) ∧ mm = w.length - k ∧ H' = [] ∧ τ' = frL [(0, .d (intssD w)), (3, .d (iD (zua (w.take k)))), (9, .d (intssD w)), (10, .d (iD w.length)), (11, .d (iD k))]) (w.length) ?_ ⟨0, Nat.zero_le _, rfl, rfl, rfl⟩ ?_
 ·refine jov ?_
  exact js2
 rintro τ' H' mm ⟨k, hk, rfl, rfl, rfl⟩
 refine szq hp (fun _ hZ => ze0 hZ) ?_
 refine zaa fun K6 hK6 => ?_
 refine zal rfl (fun ht => ?_) (fun ht => ?_)
 ·have hlt : k < w.length := by simp at ht; omega
  have hs := zn2 hlt
  have hs1 := zgl w k
  have hs2 := zgl w (k + 1)
  refine zaj (hK6 _ _ ?_)
  refine zaa fun K7 hK7 => ?_
  refine zaf ?_
  refine szq hp (fun _ hZ => ze0 hZ) ?_
  refine szq hp (fun _ hZ => ze0 hZ) ?_
  refine szq hp (fun _ hZ => ze0 hZ) ?_
  refine zal rfl (fun ht => ?_) (fun ht => ?_)
  ·simp at ht
   omega
  ·refine zaj (hK7 _ _ ?_)
   refine za1 hp zak hc rfl fun K11 hK11 => ?_
   refine ze0 ?_
   refine hK11 _ _ ⟨_, _, _, ?_, ⟨k + 1, by omega, rfl, rfl, rfl⟩, ?_⟩
   ·first | omega | (simp only [List.length_cons]; omega) | (dsimp only; omega)
   ·refine jov ?_
    exact js2
 ·have hkk : k = w.length := by simp at ht; omega
  subst hkk
  refine zau (hK3 _ _ ?_)
  refine zag hp zak hc rfl fun K12 hK12 => ?_
  refine ze0 ?_
  refine jff (jou (zua w) h2) (by simp only [List.take_length, iD, List.map_cons, List.map_nil]) ?_
  refine ze0 ?_
  refine hK12 _ _ ?_
  refine zaa fun K13 hK13 => ?_
  refine szq hp (fun _ hZ => ze0 hZ) ?_
  refine zaf ?_
  refine zan hp (fun τ' H' mm => ∃ k, (k ≤ w.length) ∧ mm = w.length - k ∧ H' = [.cells (avs ((w.take k).flatten.map iD))] ∧ τ' = frL [(0, .d (intssD w)), (6, .os 1 0 0 (w.take k).flatten.length), (25, .d (intssD w)), (26, .d (iD w.length)), (27, .d (iD k))]) (w.length) ?_ ⟨0, Nat.zero_le _, rfl, rfl, rfl⟩ ?_
  ·refine jov ?_
   exact js2
  rintro τ' H' mm ⟨k, hk, rfl, rfl, rfl⟩
  refine szq hp (fun _ hZ => ze0 hZ) ?_
  refine zaa fun K16 hK16 => ?_
  refine zal rfl (fun ht => ?_) (fun ht => ?_)
  ·have hlt : k < w.length := by simp at ht; omega
   have hs := zn2 hlt
   have hs1 := zgl w k
   have hs2 := zgl w (k + 1)
   unfold zua at hs hs1 hs2 h2
   refine zaj (hK16 _ _ ?_)
   refine zaa fun K17 hK17 => ?_
   refine zaf ?_
   refine szq hp (fun _ hZ => ze0 hZ) ?_
   refine szs hp (fun _ hZ => ze0 hZ) (hK17 _ _ ?_)
   refine za1 hp zak hc rfl fun K20 hK20 => ?_
   refine ze0 ?_
   refine hK20 _ _ ⟨_, _, _, ?_, ⟨k + 1, by omega, rfl, rfl, rfl⟩, ?_⟩
   ·first | omega | (simp only [List.length_cons]; omega) | (dsimp only; omega)
   ·refine Rt.trans (Rt.gc (keep := [1]) (by decide) (by decide) (by simp [fzH, gcH])) ?_
    refine jov ?_
    simp only [r_g, Nat.reduceAdd, ↓reduceIte, Nat.reduceEqDiff, zub hlt, List.map_append]
  ·have hkk : k = w.length := by simp at ht; omega
   subst hkk
   refine zau (hK13 _ _ ?_)
   refine szq hp (fun _ hZ => jca hZ) ?_
   refine zam ?_
   show closeA _ _ = _
   simp (disch := first | assumption | omega | (simp only [r_z] <;> omega) | decide) only [r_c, Nat.reduceAdd, D.fix, ↓reduceIte, Nat.reduceEqDiff, List.take_length]
theorem jku (w : List (List Int)) (h1 : w.length ≤ 1000000) (h2 : zua w ≤ 1000000) : zkr Try.prog 133 [intssD w] (.d (intsD w.flatten)) := by
 refine jbf (fn := Try.f133) (by kernel_rfl) Try.func133 rfl (Nat.le_of_ble_eq_true rfl) fun c hc hp => ?_
 refine za9 (τ' := frL [(0, .d (intssD w))]) (by repeat (first | exact zas _ | refine zao ?_ (by first | rfl | (simp [r_f]; done) | simp [r_f, *]))) ?_
 refine szq hp (fun _ hZ => jca hZ) ?_
 refine szq hp (fun _ hZ => jca hZ) ?_
 refine zaa fun K3 hK3 => ?_
 refine szq hp (fun _ hZ => ze0 hZ) ?_
 refine zaf ?_
 refine zan hp (fun τ' H' mm => ∃ k, (k ≤ w.length) ∧ mm = w.length - k ∧ H' = [] ∧ τ' = frL [(0, .d (intssD w)), (3, .d (iD (zua (w.take k)))), (9, .d (intssD w)), (10, .d (iD w.length)), (11, .d (iD k))]) (w.length) ?_ ⟨0, Nat.zero_le _, rfl, rfl, rfl⟩ ?_
 ·refine jov ?_
  exact js2
 rintro τ' H' mm ⟨k, hk, rfl, rfl, rfl⟩
 refine szq hp (fun _ hZ => ze0 hZ) ?_
 refine zaa fun K6 hK6 => ?_
 refine zal rfl (fun ht => ?_) (fun ht => ?_)
 ·have hlt : k < w.length := by simp at ht; omega
  have hs := zn2 hlt
  have hs1 := zgl w k
  have hs2 := zgl w (k + 1)
  refine zaj (hK6 _ _ ?_)
  refine zaa fun K7 hK7 => ?_
  refine zaf ?_
  refine szq hp (fun _ hZ => ze0 hZ) ?_
  refine szq hp (fun _ hZ => ze0 hZ) ?_
  refine szq hp (fun _ hZ => ze0 hZ) ?_
  refine zal rfl (fun ht => ?_) (fun ht => ?_)
  ·simp at ht
   omega
  ·refine zaj (hK7 _ _ ?_)
   refine za1 hp zak hc rfl fun K11 hK11 => ?_
   refine ze0 ?_
   refine hK11 _ _ ⟨_, _, _, ?_, ⟨k + 1, by omega, rfl, rfl, rfl⟩, ?_⟩
   ·first | omega | (simp only [List.length_cons]; omega) | (dsimp only; omega)
   ·refine jov ?_
    exact js2
 ·have hkk : k = w.length := by simp at ht; omega
  subst hkk
  refine zau (hK3 _ _ ?_)
  refine zag hp zak hc rfl fun K12 hK12 => ?_
  refine ze0 ?_
  refine jff (jou (zua w) h2) (by simp only [List.take_length, iD, List.map_cons, List.map_nil]) ?_
  refine ze0 ?_
  refine hK12 _ _ ?_
  refine zaa fun K13 hK13 => ?_
  refine szq hp (fun _ hZ => ze0 hZ) ?_
  refine zaf ?_
  refine zan hp (fun τ' H' mm => ∃ k, (k ≤ w.length) ∧ mm = w.length - k ∧ H' = [.cells (avs ((w.take k).flatten.map iD))] ∧ τ' = frL [(0, .d (intssD w)), (6, .os 1 0 0 (w.take k).flatten.length), (25, .d (intssD w)), (26, .d (iD w.length)), (27, .d (iD k))]) (w.length) ?_ ⟨0, Nat.zero_le _, rfl, rfl, rfl⟩ ?_
  ·refine jov ?_
   exact js2
  rintro τ' H' mm ⟨k, hk, rfl, rfl, rfl⟩
  refine szq hp (fun _ hZ => ze0 hZ) ?_
  refine zaa fun K16 hK16 => ?_
  refine zal rfl (fun ht => ?_) (fun ht => ?_)
  ·have hlt : k < w.length := by simp at ht; omega
   have hs := zn2 hlt
   have hs1 := zgl w k
   have hs2 := zgl w (k + 1)
   unfold zua at hs hs1 hs2 h2
   refine zaj (hK16 _ _ ?_)
   refine zaa fun K17 hK17 => ?_
   refine zaf ?_
   refine szq hp (fun _ hZ => ze0 hZ) ?_
   refine szs hp (fun _ hZ => ze0 hZ) (hK17 _ _ ?_)
   refine za1 hp zak hc rfl fun K20 hK20 => ?_
   refine ze0 ?_
   refine hK20 _ _ ⟨_, _, _, ?_, ⟨k + 1, by omega, rfl, rfl, rfl⟩, ?_⟩
   ·first | omega | (simp only [List.length_cons]; omega) | (dsimp only; omega)
   ·refine Rt.trans (Rt.gc (keep := [1]) (by decide) (by decide) (by simp [fzH, gcH])) ?_
    refine jov ?_
    simp only [r_g, Nat.reduceAdd, ↓reduceIte, Nat.reduceEqDiff, zub hlt, List.map_append]
  ·have hkk : k = w.length := by simp at ht; omega
   subst hkk
   refine zau (hK13 _ _ ?_)
   refine szq hp (fun _ hZ => jca hZ) ?_
   refine zam ?_
   show closeN _ _ = _
   simp (disch := first | assumption | omega | (simp only [r_z] <;> omega) | decide) only [r_c, Nat.reduceAdd, D.fix, ↓reduceIte, Nat.reduceEqDiff, List.take_length, jvk, jfi, jjj, jjg (jkt _)]
end
end Go.Proofs.Ytapjobndmmkanaa
