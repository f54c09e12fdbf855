/- Of no program: the abstract machine's operations that lay or write objects, at the operation. -/
import Derived.Test.YtfpcailbobjfnaaA7
set_option linter.unusedVariables false
set_option linter.unusedSimpArgs false
namespace Go.Proofs.Ytfpcailbobjfnaa
open Go Go.RowKit
section
variable {P : Program} {c : Cx} {τ : Fr} {a : Act} {w w' : World} {pl pl' : List (Option (Nat × Nat))} {H : AHeap} {sh : List (Nat × Nat)} {own : Nat → Prop}
/-- What an operation that lays or writes leaves: a value that reads so, the objects, the world. -/
def Lays (c : Cx) (τ : Fr) (a : Act) (H' : AHeap) (sh' : List (Nat × Nat)) (x : AV) (v : Value) (w' : World) : Prop :=
  ∃ pl', RelS c τ H' sh' pl' a w' ∧ Rd w' pl' (ownB c.E H' pl') x v
theorem box_run (h : RelS c τ H sh pl a w) {n : Nat} (hn : H[n]? = some .free) (hsn : ∀ p ∈ sh, p.1 ≠ n ∧ p.2 ≠ n) (t : TypeId) {x : AV} {cs : List AV} (hc : asCells x = some cs) {v : Value} (hv : Rd w pl (ownB c.E H pl) x v) :
    ∃ u w', (Instr.box t v).run P w = .ok u w' ∧ Lays c τ a (H.set n (.cells cs)) sh (.op n 0) u w' := by
  obtain ⟨h1, _, _⟩ := asCells_rd hc hv
  refine ⟨_, _, by simp only [Instr.box, newVar, newRow, newObj, Sem.run_bind]; rfl, pl.set n (some (w.heap.size, 0)), h.freshRow hn hsn h1 t, ?_⟩
  exact .op _ _ _ _ (place_new h hn _)
theorem zeroCells_rd (zs : List D) (arr : Array Value) (hz : arr.toList.map D.val = zs) (h1 : zs.all D.one = true) : RowRd w pl own arr 0 (zs.map .d) := by
  subst hz
  refine ⟨by simp, fun j x hj => ?_⟩
  rw [List.getElem?_map, Option.map_eq_some_iff] at hj
  obtain ⟨y, hy, rfl⟩ := hj
  rw [List.getElem?_map, Option.map_eq_some_iff] at hy
  obtain ⟨u, hu, rfl⟩ := hy
  have e : arr.getD (0 + j) undef = u := by rw [Nat.zero_add, Array.getD_eq_getD_getElem?, ← Array.getElem?_toList, hu]; rfl
  rw [e]
  refine ⟨.d _ _ (.val _), ?_⟩
  exact List.all_eq_true.1 h1 (.val u) (List.mem_map.2 ⟨u, List.mem_of_getElem? hu, rfl⟩)
theorem alloc_run (h : RelS c τ H sh pl a w) {n : Nat} (hn : H[n]? = some .free) (hsn : ∀ p ∈ sh, p.1 ≠ n ∧ p.2 ≠ n) (t : TypeId) {zs : List D} (hz : zcO P t = some zs) (h1 : zs.all D.one = true) :
    ∃ u w', (Instr.alloc t true (.tuple #[])).run P w = .ok u w' ∧ Lays c τ a (H.set n (.cells (zs.map .d))) sh (.op n 0) u w' := by
  unfold zcO at hz
  obtain ⟨z, hz0, rfl⟩ := Option.map_eq_some_iff.1 hz
  obtain ⟨i, hi, hz'⟩ := Option.bind_eq_some_iff.1 hz0
  refine ⟨_, _, by simp only [Instr.alloc, zeroValue, typeInfo, hi, hz', newVar, newRow, newObj, Sem.run_bind, run_program, Result.andThen_ok, Sem.run_pure]; rfl, pl.set n (some (w.heap.size, 0)), h.freshRow hn hsn (zeroCells_rd _ z.cells rfl h1) t, ?_⟩
  exact .op _ _ _ _ (place_new h hn _)
theorem store_run (h : RelS c τ H sh pl a w) (t : TypeId) {id i : Nat} {cs l : List AV} {x : AV} (hid : H[id]? = some (.cells cs)) (hs : szO P t = some l.length) (hc : asCells x = some l) (hi : i + l.length ≤ cs.length) (hsh : ∀ p ∈ sh, p.1 ≠ id ∧ p.2 ≠ id)
    {p v : Value} (hp : Rd w pl (ownB c.E H pl) (.op id i) p) (hv : Rd w pl (ownB c.E H pl) x v) :
    ∃ w', (Instr.storeAt t p v).run P w = .ok () w' ∧ ∃ pl', RelS c τ (H.set id (.cells (setMany cs i l))) sh pl' a w' := by
  obtain ⟨h1, h2, h3⟩ := asCells_rd hc hv
  cases hp with
  | op _ _ b base hpl =>
    rcases h.h.obj _ _ hid with ⟨he, hn⟩ | ⟨b', base', arr, t', k1, k2, k3, k4⟩
    · rw [hpl] at hn; cases hn
    · rw [hpl] at k1; cases k1
      obtain ⟨r1, r2⟩ := RowRd.write (i := i) (l := l) ⟨k3, k4⟩ (vs := v.cells.toList) (by simpa using h2) hi (fun j y hj => by
        have := h1.2 j y hj
        rw [Nat.zero_add, Array.getD_eq_getD_getElem?] at this
        rw [List.getD_eq_getElem?_getD, Array.getElem?_toList]; exact this)
      refine ⟨_, ?_, pl, h.write hid hpl k2 hsh r2 r1⟩
      have hst := run_storeCells_at P b (base + i) t' v.cells.toList 0 arr w k2 (by simp [h2]; omega) h3
      simp only [Nat.add_zero] at hst
      simp [Instr.storeAt, storeVar, Instr.sureAddr, szO_run hs, h2, hst]
/-- n elements of these cells. -/
def reps (n : Nat) (zs : List D) : List AV := match zs with | [z] => List.replicate n (.d z) | zs => (List.replicate n (zs.map AV.d)).flatten
theorem reps_len (n : Nat) (zs : List D) : (reps n zs).length = n * zs.length := by
  unfold reps
  split <;> simp
theorem flatten_replicate_get {α : Type} (l : List α) (hl : 0 < l.length) : ∀ (n j : Nat), j < n * l.length → ((List.replicate n l).flatten)[j]? = l[j % l.length]?
  | 0, j, h => by simp at h
  | n + 1, j, h => by
    rw [List.replicate_succ, List.flatten_cons]
    by_cases hj : j < l.length
    · rw [List.getElem?_append_left hj, Nat.mod_eq_of_lt hj]
    · rw [List.getElem?_append_right (by omega), flatten_replicate_get l hl n _ (by rw [Nat.add_mul] at h; omega), ← Nat.mod_eq_sub_mod (by omega)]
theorem reps_get (n : Nat) (zs : List D) (hz : 0 < zs.length) (j : Nat) (hj : j < n * zs.length) : (reps n zs)[j]? = (zs[j % zs.length]?).map .d := by
  unfold reps
  split
  · rename_i z
    simp only [List.length_singleton, Nat.mul_one] at hj
    simp [hj, Nat.mod_one]
  · rw [flatten_replicate_get _ (by simpa using hz) n j (by simpa using hj), List.length_map, List.getElem?_map]
theorem made_rd (zs : List D) (z : Array Value) (hz : z.toList.map D.val = zs) (h1 : zs.all D.one = true) (h0 : 0 < zs.length) (n cap : Nat) (hn : n ≤ cap) : RowRd w pl own (madeCells z (cap * zs.length)) 0 (reps n zs) := by
  have hzl : z.size = zs.length := by rw [← hz]; simp
  refine ⟨by rw [reps_len, size_madeCells, Nat.zero_add]; exact Nat.mul_le_mul_right _ hn, fun j x hj => ?_⟩
  have hlt : j < n * zs.length := by have := (List.getElem?_eq_some_iff.1 hj).1; rwa [reps_len] at this
  have hlt' : j < cap * zs.length := Nat.lt_of_lt_of_le hlt (Nat.mul_le_mul_right _ hn)
  have hm : j % z.size < z.size := Nat.mod_lt _ (by omega)
  rw [reps_get n zs h0 j hlt] at hj
  have e : (madeCells z (cap * zs.length)).getD (0 + j) undef = z[j % z.size] := by
    rw [Nat.zero_add, Array.getD_eq_getD_getElem?]
    simp [madeCells, hlt', hm]
  have hzj : zs[j % zs.length]? = some (.val z[j % z.size]) := by
    rw [← hz, List.getElem?_map, List.length_map, Array.length_toList, Array.getElem?_toList, Array.getElem?_eq_getElem hm]; rfl
  rw [hzj] at hj
  cases hj
  rw [e]
  refine ⟨.d _ _ (.val _), ?_⟩
  exact List.all_eq_true.1 h1 _ (List.mem_of_getElem? hzj)
theorem makeSlice_run (h : RelS c τ H sh pl a w) {id : Nat} (hid : H[id]? = some .free) (hsn : ∀ p ∈ sh, p.1 ≠ id ∧ p.2 ≠ id) {t e : TypeId} {s : Nat} (he : elO P t = some (none, e, s)) {zs : List D} (hz : zcO P e = some zs) (hzs : zs.length = s) (hs0 : 0 < s) (h1 : zs.all D.one = true) {by_ : Nat} (hby : byO P e = some by_)
    (k1 k2 : IntKind) {n cap : Nat} (hn : n ≤ cap) (hcap : cap ≤ maxLen) (hb : by_ * cap ≤ 281474976710656) :
    ∃ u w', (Instr.makeSlice t (.int k1 n) (.int k2 cap)).run P w = .ok u w' ∧ Lays c τ a (H.set id (.cells (reps n zs))) sh (.os s id 0 n) u w' := by
  unfold zcO at hz
  obtain ⟨z, hz0, hzz⟩ := Option.map_eq_some_iff.1 hz
  obtain ⟨i, hi, hz'⟩ := Option.bind_eq_some_iff.1 hz0
  obtain ⟨hu, hsz⟩ := elO_slice he
  have hsi : i.size = s := by unfold szO at hsz; rw [hi] at hsz; exact Option.some.inj hsz
  have hbi : i.bytes = by_ := by unfold byO at hby; rw [hi] at hby; exact Option.some.inj hby
  have hrow : RowRd w pl (ownB c.E H pl) (madeCells z.cells (cap * s)) 0 (reps n zs) := by
    have := made_rd (w := w) (pl := pl) (own := ownB c.E H pl) zs z.cells hzz h1 (by omega) n cap hn
    rwa [hzs] at this
  have hrun := run_make (P := P) w t e i z hu hi hz' k1 k2 (n : Int) (cap : Int) (by omega) (by omega) (by rw [hbi]; have e := Int.natCast_mul by_ cap; omega) (by unfold maxLen at hcap; omega)
  simp only [Int.toNat_natCast, hsi] at hrun
  refine ⟨_, _, hrun, pl.set id (some (w.heap.size, 0)), h.freshRow hid hsn hrow e, ?_⟩
  have hp : (pl.set id (some (w.heap.size, 0)))[id]? = some (some (w.heap.size, 0)) := place_new h hid _
  exact Rd.os s id 0 n cap w.heap.size 0 (cap * s) e hp (by unfold World.shape?; rw [heap_alloc_new]; show some (e, (madeCells z.cells (cap * s)).size) = _; rw [size_madeCells]) hn hcap (by omega)
end
end Go.Proofs.Ytfpcailbobjfnaa
