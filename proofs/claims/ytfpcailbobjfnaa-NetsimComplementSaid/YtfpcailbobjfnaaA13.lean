/- Of no program: the abstract machine's literals, reslices, least and greatest, at the operation. -/
import Derived.Test.YtfpcailbobjfnaaA12
set_option linter.unusedVariables false
set_option linter.unusedSimpArgs false
namespace Go.Proofs.Ytfpcailbobjfnaa
open Go Go.RowKit
section
variable {P : Program} {c : Cx} {τ : Fr} {a : Act} {w w' : World} {pl pl' : List (Option (Nat × Nat))} {H : AHeap} {sh sh' : List (Nat × Nat)} {own : Nat → Prop}
theorem places_of (P : Program) : ∀ (fs : List Field), fs.all (fun f => (szO P f.type).isSome) = true → ∃ places : List (Nat × Nat), fs.mapM (fun f => (P.info? f.type).map fun i => (f.offset, i.size)) = some places ∧ ∀ i : Nat, places[i]? = (fs[i]?).bind fun (f : Field) => (szO P f.type).map fun n => (f.offset, n)
  | [], _ => ⟨[], by simp, fun i => by simp⟩
  | f :: fs, h => by
    simp only [List.all_cons, Bool.and_eq_true] at h
    obtain ⟨rest, h1, h2⟩ := places_of P fs h.2
    obtain ⟨n, hn⟩ := Option.isSome_iff_exists.1 h.1
    have hn' := hn
    unfold szO at hn'
    obtain ⟨i, hi, rfl⟩ := Option.map_eq_some_iff.1 hn'
    refine ⟨(f.offset, i.size) :: rest, by simp [List.mapM_cons, hi, h1], fun j => ?_⟩
    cases j with
    | zero => simp [hn]
    | succ j => simpa using h2 j
/-- A struct or an array put together. -/
def BuildQ (P : Program) (t : TypeId) (parts : List (Nat × AV)) (x : AV) : Prop := plAll P t = true ∧ ∃ zs cs, zcO P t = some zs ∧ zs.all D.one = true ∧ fillA (plO P t) (zs.map .d) parts = some cs ∧ x = .agg cs
theorem RowRd.agg {arr : Array Value} {cs : List AV} (h : RowRd w pl own arr 0 cs) (hs : arr.size = cs.length) : Rd w pl own (.agg cs) (.agg arr) :=
  .agg _ _ hs fun j x hj => by have := (h.2 j x hj).1; rwa [Nat.zero_add] at this
theorem BuildQ.run {t : TypeId} {parts : List (Nat × AV)} {x : AV} (h : BuildQ P t parts x) {vparts : Array (Nat × Value)} (hl : vparts.size = parts.length) (hp : ∀ (j i : Nat) (x : AV), parts[j]? = some (i, x) → ∃ v, vparts.toList[j]? = some (i, v) ∧ Rd w pl own x v) :
    ∃ u, (Instr.build t vparts).run P w = .ok u w ∧ Rd w pl own x u := by
  obtain ⟨hall, zs, cs, hz, h1, hf, rfl⟩ := h
  unfold zcO at hz
  obtain ⟨z, hz0, hzz⟩ := Option.map_eq_some_iff.1 hz
  obtain ⟨i, hi, hz'⟩ := Option.bind_eq_some_iff.1 hz0
  obtain ⟨arr', k1, k2, k3, _⟩ := fill_rd (w := w) (pl := pl) (own := own) (plO P t) parts vparts.toList (zs.map .d) cs z.cells (by simpa using hl) hp (zeroCells_rd zs z.cells hzz h1) (by rw [← hzz]; simp) hf
  refine ⟨_, run_build w t vparts arr' ?_, k2.agg k3⟩
  unfold Program.built
  unfold plAll at hall
  unfold plO at k1
  cases hu : P.underlying t with
  | none => rw [hu] at hall; cases hall
  | some d =>
    rw [hu] at hall k1
    cases d with
    | struct fs =>
      obtain ⟨places, p1, p2⟩ := places_of P fs.toList (by simpa using hall)
      simp only [hi, hz', p1]
      have e : (fun i => places.toArray[i]?) = fun (i : Nat) => (match fs[i]? with | some (f : Field) => (szO P f.type).map fun n => (f.offset, n) | none => none) := by
        funext j
        rw [List.getElem?_toArray, p2 j, Array.getElem?_toList]
        cases fs[j]? <;> rfl
      rw [e]; exact k1
    | array n e =>
      obtain ⟨m, hm⟩ := Option.isSome_iff_exists.1 hall
      have hm' := hm
      unfold szO at hm'
      obtain ⟨ie, hie, rfl⟩ := Option.map_eq_some_iff.1 hm'
      simp only [hi, hz', hie]
      simp only [hm, Option.map_some] at k1
      exact k1
    | _ => cases hall
theorem buildSlice_run (h : RelS c τ H sh pl a w) {id' : Nat} (hn' : H[id']? = some .free) (hsn : ∀ p ∈ sh, p.1 ≠ id' ∧ p.2 ≠ id') {t e : TypeId} {s : Nat} (he : elO P t = some (none, e, s)) {zs : List D} (hz : zcO P e = some zs) (hzs : zs.length = s) (hs0 : 0 < s) (h1 : zs.all D.one = true) {len : Nat} (hsm : len * s ≤ 16777216)
    {parts : List (Nat × AV)} {cs : List AV} (hf : fillA (fun i => some (i * s, s)) (reps len zs) parts = some cs) {vparts : Array (Nat × Value)} (hl : vparts.size = parts.length) (hp : ∀ (j i : Nat) (x : AV), parts[j]? = some (i, x) → ∃ v, vparts.toList[j]? = some (i, v) ∧ Rd w pl (ownB c.E H pl) x v) :
    ∃ u w', (Instr.buildSlice t len vparts).run P w = .ok u w' ∧ Lays c τ a (H.set id' (.cells cs)) sh (.os s id' 0 len) u w' := by
  unfold zcO at hz
  obtain ⟨z, hz0, hzz⟩ := Option.map_eq_some_iff.1 hz
  obtain ⟨i, hi, hz'⟩ := Option.bind_eq_some_iff.1 hz0
  obtain ⟨hu, hsz⟩ := elO_slice he
  have hrow : RowRd w pl (ownB c.E H pl) (madeCells z.cells (len * s)) 0 (reps len zs) := by
    have := made_rd (w := w) (pl := pl) (own := ownB c.E H pl) zs z.cells hzz h1 (by omega) len len (Nat.le_refl _)
    rwa [hzs] at this
  obtain ⟨arr', k1, k2, k3, k4⟩ := fill_rd (fun i => some (i * s, s)) parts vparts.toList (reps len zs) cs _ (by simpa using hl) hp hrow (by rw [size_madeCells, reps_len, hzs]) hf
  have hsz' : arr'.size = len * s := by rw [k3, k4, reps_len, hzs]
  have hbig : ¬ (16777216 < len * s) := by omega
  have hrun : (Instr.buildSlice t len vparts).run P w = .ok (.slice (some ⟨w.heap.size, 0, none⟩) len len) (w.alloc (.cells arr' e)) := by
    unfold Instr.buildSlice
    by_cases h0 : len * s = 0
    · have hr0 : ∀ f : Nat → Value, (Array.range (len * s)).map f = #[] := fun f => Array.eq_empty_of_size_eq_zero (by simp [h0])
      unfold madeCells at k1
      rw [hr0] at k1
      have hbig' : ¬ (len * s > 2 ^ 24) := by omega
      simp only [Sem.run_bind, run_underlying hu, Result.andThen_ok, szO_run hsz, if_neg hbig', if_pos h0, Sem.run_pure, hr0, k1, newRow, newObj]
      rfl
    · unfold madeCells at k1
      simp [run_underlying hu, szO_run hsz, h0, hbig, zeroValue, typeInfo, hi, hz', k1, newRow, newObj]
      rfl
  refine ⟨_, _, hrun, pl.set id' (some (w.heap.size, 0)), h.freshRow hn' hsn k2 e, ?_⟩
  have hpn : (pl.set id' (some (w.heap.size, 0)))[id']? = some (some (w.heap.size, 0)) := place_new h hn' _
  refine Rd.os s id' 0 len len w.heap.size 0 (len * s) e hpn ?_ (Nat.le_refl _) ?_ (by omega)
  · unfold World.shape?; rw [heap_alloc_new]; show some (e, arr'.size) = _; rw [hsz']
  · have : len ≤ len * s := Nat.le_mul_of_pos_right _ hs0
    unfold maxLen; omega

/-! ### Reslices -/
def sbI (d : Int) : Option AV → Option Int
  | none => some d
  | some (.d (.val (.int _ i))) => some i
  | _ => none
theorem sbI_cases {d l : Int} {lo : Option AV} {vlo : Option Value} (h : sbI d lo = some l) (hlo : ∀ x, lo = some x → ∃ v, vlo = some v ∧ Rd w pl own x v) (hlo' : lo = none → vlo = none) : (vlo = none ∧ l = d) ∨ ∃ k, vlo = some (.int k l) := by
  unfold sbI at h
  split at h
  · cases h; exact .inl ⟨hlo' rfl, rfl⟩
  · cases h
    obtain ⟨v, rfl, hv⟩ := hlo _ rfl
    cases hv with | d _ _ hv => cases hv; exact .inr ⟨_, rfl⟩
  · cases h
theorem sliceBounds_run {isS : Bool} {len cap : Nat} {lo hi : Option AV} {vlo vhi : Option Value} (hlo : ∀ x, lo = some x → ∃ v, vlo = some v ∧ Rd w pl own x v) (hlo' : lo = none → vlo = none) (hhi : ∀ x, hi = some x → ∃ v, vhi = some v ∧ Rd w pl own x v) (hhi' : hi = none → vhi = none)
    {l h : Int} (h1 : sbI 0 lo = some l) (h2 : sbI len hi = some h) (h0 : 0 ≤ l) (h3 : l ≤ h) (h4 : h ≤ len) (h5 : len ≤ cap) : (Instr.sliceBounds isS len cap vlo vhi none).run P w = .ok (l.toNat, h.toNat, cap) w := by
  have a1 : 0 ≤ h := by omega
  have a2 : h ≤ (cap : Int) := by omega
  have a3 : l ≤ max h 0 := by omega
  rcases sbI_cases h1 hlo hlo' with ⟨rfl, rfl⟩ | ⟨k, rfl⟩ <;> rcases sbI_cases h2 hhi hhi' with ⟨rfl, rfl⟩ | ⟨k', rfl⟩
  · simp [Instr.sliceBounds]
  · simp [Instr.sliceBounds, Instr.sliceBound, asIntOf, a1, a2]
  · simp [Instr.sliceBounds, Instr.sliceBound, asIntOf, h0, h3]
  · simp [Instr.sliceBounds, Instr.sliceBound, asIntOf, a1, a2, h0, a3]
def SliceQ (P : Program) (H : AHeap) (N0 : Nat) (t : TypeId) (p : AV) (lo hi : Option AV) (x : AV) : Prop :=
  match p with
  | .d (.fs cs n) => ∃ e s l h, elO P t = some (none, e, s) ∧ sbI 0 lo = some l ∧ sbI n hi = some h ∧ 0 ≤ l ∧ l ≤ h ∧ h ≤ n ∧ x = .d (.fs ((cs.drop (l.toNat * s)).take ((h - l).toNat * s)) (h - l).toNat)
  | .os k id off n => ∃ e l h, elO P t = some (none, e, k) ∧ sbI 0 lo = some l ∧ sbI n hi = some h ∧ 0 ≤ l ∧ l ≤ h ∧ h ≤ n ∧ x = .os k id (off + l.toNat * k) (h - l).toNat
  | .op id o => ∃ n e s l h cs, elO P t = some (some n, e, s) ∧ id < N0 ∧ H[id]? = some (.cells cs) ∧ o + n * s ≤ cs.length ∧ n ≤ maxLen ∧ sbI 0 lo = some l ∧ sbI n hi = some h ∧ 0 ≤ l ∧ l ≤ h ∧ h ≤ n ∧ x = .os s id (o + l.toNat * s) (h - l).toNat
  | _ => False
theorem SliceQ.run {E : Nat → Prop} (hr : RelH E w pl H sh) {N0 : Nat} {t : TypeId} {p x : AV} {lo hi : Option AV} (h : SliceQ P H N0 t p lo hi x) {v : Value} {vlo vhi : Option Value} (hv : Rd w pl (ownB E H pl) p v)
    (hlo : ∀ x, lo = some x → ∃ v, vlo = some v ∧ Rd w pl (ownB E H pl) x v) (hlo' : lo = none → vlo = none) (hhi : ∀ x, hi = some x → ∃ v, vhi = some v ∧ Rd w pl (ownB E H pl) x v) (hhi' : hi = none → vhi = none) :
    ∃ u, (Instr.sliceAt t v vlo vhi none).run P w = .ok u w ∧ Rd w pl (ownB E H pl) x u := by
  unfold SliceQ at h
  split at h
  · rename_i cs n
    obtain ⟨e, s, l, h, he, h1, h2, h0, h3, h4, rfl⟩ := h
    obtain ⟨hu, hs⟩ := elO_slice he
    cases hv with | d _ _ hv =>
    cases hv with
    | f0 ad cap hm hn =>
      have hb := sliceBounds_run (P := P) (w := w) (isS := true) (len := 0) (cap := cap) hlo hlo' hhi hhi' h1 h2 h0 h3 h4 (Nat.zero_le _)
      have e1 : l = 0 := by simp only [Int.ofNat_zero] at h4; omega
      have e2 : h = 0 := by simp only [Int.ofNat_zero] at h4; omega
      subst e1; subst e2
      refine ⟨.slice ad 0 cap, ?_, ?_⟩
      · cases ad <;> simp [Instr.sliceAt, Instr.slice, run_underlying hu, hb, szO_run hs, Addr.add]
      · simpa using Rd.d _ _ (.f0 ad cap hm hn)
    | fs _ _ cap b off f hb ho hn hm hc h1' hx =>
      have hbd := sliceBounds_run (P := P) (w := w) (isS := true) (len := n) (cap := cap) hlo hlo' hhi hhi' h1 h2 h0 h3 h4 hn
      by_cases hcl : cap = l.toNat
      · subst hcl
        have e0 : (h - l).toNat = 0 := by omega
        refine ⟨.slice (some ⟨b, off, none⟩) (h.toNat - l.toNat) (l.toNat - l.toNat), by simp [Instr.sliceAt, Instr.slice, run_underlying hu, hbd, szO_run hs], ?_⟩
        rw [e0, show h.toNat - l.toNat = 0 by omega, Nat.zero_mul, List.take_zero]
        exact .d _ _ (.f0 _ _ (by omega) (fun he => by cases he))
      · refine ⟨.slice (some ⟨b, off + l.toNat * s, none⟩) (h.toNat - l.toNat) (cap - l.toNat), by simp [Instr.sliceAt, Instr.slice, run_underlying hu, hbd, szO_run hs, hcl, add_eq], ?_⟩
        rw [show (h - l).toNat = h.toNat - l.toNat by omega]
        have hget : ∀ j y, ((cs.drop (l.toNat * s)).take ((h.toNat - l.toNat) * s))[j]? = some y → cs[l.toNat * s + j]? = some y := fun j y hj => by
          have hj' := (List.getElem?_eq_some_iff.1 hj).1
          rw [List.length_take] at hj'
          rw [List.getElem?_take_of_lt (by omega), List.getElem?_drop] at hj
          exact hj
        refine .d _ _ (.fs _ _ _ b _ (fun j => f (l.toNat * s + j)) hb ho (by omega) (by omega) (fun j y hj => ?_) (fun j y hj => h1' _ _ (hget j y hj)) (fun j y hj => hx _ _ (hget j y hj)))
        rw [Nat.add_assoc]; exact hc _ _ (hget j y hj)
  · rename_i k id off n
    obtain ⟨e, l, h, he, h1, h2, h0, h3, h4, rfl⟩ := h
    obtain ⟨hu, hs⟩ := elO_slice he
    cases hv with
    | os _ _ _ _ cap b base sz t' hp ht hn hm hz =>
      have hbd := sliceBounds_run (P := P) (w := w) (isS := true) (len := n) (cap := cap) hlo hlo' hhi hhi' h1 h2 h0 h3 h4 hn
      by_cases hcl : cap = l.toNat
      · subst hcl
        refine ⟨.slice (some ⟨b, base + off, none⟩) (h.toNat - l.toNat) (l.toNat - l.toNat), by simp [Instr.sliceAt, Instr.slice, run_underlying hu, hbd, szO_run hs], ?_⟩
        rw [show (h - l).toNat = 0 by omega, show h.toNat - l.toNat = 0 by omega, Nat.sub_self]
        exact .os0 _ _ _ _
      · refine ⟨.slice (some ⟨b, base + off + l.toNat * k, none⟩) (h.toNat - l.toNat) (cap - l.toNat), by simp [Instr.sliceAt, Instr.slice, run_underlying hu, hbd, szO_run hs, hcl, add_eq], ?_⟩
        rw [show (h - l).toNat = h.toNat - l.toNat by omega, Nat.add_assoc]
        refine .os _ _ _ _ _ b base sz t' hp ht (by omega) (by omega) ?_
        have : l.toNat * k + (cap - l.toNat) * k = cap * k := by rw [← Nat.add_mul]; congr 1; omega
        omega
    | os0 _ _ _ ad =>
      have hbd := sliceBounds_run (P := P) (w := w) (isS := true) (len := 0) (cap := 0) hlo hlo' hhi hhi' h1 h2 h0 h3 h4 (Nat.zero_le _)
      have e1 : l = 0 := by simp only [Int.ofNat_zero] at h4; omega
      have e2 : h = 0 := by simp only [Int.ofNat_zero] at h4; omega
      subst e1; subst e2
      refine ⟨.slice ad 0 0, ?_, .os0 _ _ _ _⟩
      simp [Instr.sliceAt, Instr.slice, run_underlying hu, hbd, szO_run hs]
  · rename_i id o
    obtain ⟨n, e, s, l, h, cs, he, _, hid, hfit, hmx, h1, h2, h0, h3, h4, rfl⟩ := h
    obtain ⟨hu, hs⟩ := elO_array he
    cases hv with
    | op _ _ b base hp =>
      rcases hr.obj _ _ hid with ⟨_, hnn⟩ | ⟨b', base', arr, t', k1, k2, k3, _⟩
      · rw [hp] at hnn; cases hnn
      · rw [hp] at k1; cases k1
        have hbd := sliceBounds_run (P := P) (w := w) (isS := false) (len := n) (cap := n) hlo hlo' hhi hhi' h1 h2 h0 h3 h4 (Nat.le_refl _)
        have hsh : w.shape? b = some (t', arr.size) := by unfold World.shape?; rw [k2]
        by_cases hcl : n = l.toNat
        · subst hcl
          refine ⟨.slice (some ⟨b, base + o, none⟩) (h.toNat - l.toNat) (l.toNat - l.toNat), by simp [Instr.sliceAt, run_underlying hu, hbd, szO_run hs, Instr.sureAddr], ?_⟩
          rw [show (h - l).toNat = 0 by omega, show h.toNat - l.toNat = 0 by omega, Nat.sub_self]
          exact .os0 _ _ _ _
        · refine ⟨.slice (some ⟨b, base + o + l.toNat * s, none⟩) (h.toNat - l.toNat) (n - l.toNat), by simp [Instr.sliceAt, run_underlying hu, hbd, szO_run hs, hcl, Instr.sureAddr, add_eq], ?_⟩
          rw [show (h - l).toNat = h.toNat - l.toNat by omega, Nat.add_assoc]
          refine .os _ _ _ _ _ b base arr.size t' hp hsh (by omega) (by omega) ?_
          have : l.toNat * s + (n - l.toNat) * s = n * s := by rw [← Nat.add_mul]; congr 1; omega
          omega
  · exact h.elim
end
end Go.Proofs.Ytfpcailbobjfnaa
