/- Of no program: the abstract machine's operations on addresses, slices, parts. -/
import Derived.Test.YtfpcailbobjfnaaA4
set_option linter.unusedVariables false
set_option linter.unusedSimpArgs false
namespace Go.Proofs.Ytfpcailbobjfnaa
open Go Go.RowKit
section
variable {P : Program} {E : Nat → Prop} {w : World} {pl : List (Option (Nat × Nat))} {H : AHeap} {sh : List (Nat × Nat)} {own : Nat → Prop}

/-! ### Addresses -/
def offA (p : AV) (o : Nat) (x : AV) : Prop :=
  match p with
  | .d (.fp cs i) => x = .d (.fp cs (i + o))
  | .op id i => x = .op id (i + o)
  | _ => False
theorem offA_rd {p x : AV} {o : Nat} (h : offA p o x) {v : Value} (hv : Rd w pl own p v) : ∃ b k, v = .pointer (some ⟨b, k, none⟩) ∧ Rd w pl own x (.pointer (some ⟨b, k + o, none⟩)) := by
  unfold offA at h
  split at h
  · subst h
    cases hv with
    | d _ _ hv =>
      cases hv with
      | fp _ _ b off f hb ho hc h1 hx => exact ⟨b, _, rfl, .d _ _ (by rw [Nat.add_assoc]; exact .fp _ _ b off f hb ho hc h1 hx)⟩
  · subst h
    cases hv with
    | op _ _ b base hp => exact ⟨b, _, rfl, by rw [Nat.add_assoc]; exact .op _ _ b base hp⟩
  · exact h.elim
def FieldAddrQ (P : Program) (t : TypeId) (f : Nat) (p x : AV) : Prop := ∃ o, foO P t f = some o ∧ offA p o x
theorem FieldAddrQ.run {t : TypeId} {f : Nat} {p x : AV} (h : FieldAddrQ P t f p x) {v : Value} (hv : Rd w pl own p v) : ∃ u, (Instr.fieldAt t v f).run P w = .ok u w ∧ Rd w pl own x u := by
  obtain ⟨o, ho, hx⟩ := h
  obtain ⟨b, k, rfl, hr⟩ := offA_rd hx hv
  refine ⟨_, ?_, hr⟩
  unfold foO at ho
  split at ho
  · rename_i fs hu
    split at ho
    · rename_i y hy
      split at ho
      · rename_i n hz
        cases ho
        simp [Instr.fieldAt, run_underlying hu, hy, Instr.sureAddr, fieldPlace, szO_run hz, add_eq]
      · cases ho
    · cases ho
  · cases ho
def IndexAddrQ (P : Program) (t : TypeId) (p ix x : AV) : Prop :=
  ∃ (kd : IntKind) (i : Int) (len : Option Nat) (e : TypeId) (s : Nat), ix = .d (.val (.int kd i)) ∧ elO P t = some (len, e, s) ∧ 0 ≤ i ∧
    match len, p with
    | none, .d (.fs cs n) => i < n ∧ x = .d (.fp cs (i.toNat * s))
    | none, .os k id off n => i < n ∧ k = s ∧ x = .op id (off + i.toNat * s)
    | some n, .d (.fp cs o) => i < n ∧ x = .d (.fp cs (o + i.toNat * s))
    | some n, .op id o => i < n ∧ x = .op id (o + i.toNat * s)
    | _, _ => False
theorem elO_slice {t e : TypeId} {s : Nat} (h : elO P t = some (none, e, s)) : P.underlying t = some (.slice e) ∧ szO P e = some s := by
  unfold elO at h
  split at h
  · rename_i e' hu; obtain ⟨n, hn, h'⟩ := Option.map_eq_some_iff.1 h; cases h'; exact ⟨hu, hn⟩
  · obtain ⟨n, hn, h'⟩ := Option.map_eq_some_iff.1 h; cases h'
  · cases h
theorem elO_array {t e : TypeId} {s n : Nat} (h : elO P t = some (some n, e, s)) : P.underlying t = some (.array n e) ∧ szO P e = some s := by
  unfold elO at h
  split at h
  · obtain ⟨n, hn, h'⟩ := Option.map_eq_some_iff.1 h; cases h'
  · rename_i hu; obtain ⟨n, hn, h'⟩ := Option.map_eq_some_iff.1 h; cases h'; exact ⟨hu, hn⟩
  · cases h
theorem IndexAddrQ.run {t : TypeId} {p ix x : AV} (h : IndexAddrQ P t p ix x) {v u : Value} (hv : Rd w pl own p v) (hu : Rd w pl own ix u) : ∃ z, (Instr.indexAt t v u).run P w = .ok z w ∧ Rd w pl own x z := by
  obtain ⟨kd, i, len, e, s, rfl, he, h0, h⟩ := h
  cases hu with | d _ _ hu => cases hu with | val =>
  split at h
  · obtain ⟨hlt, rfl⟩ := h
    obtain ⟨h1, h2⟩ := elO_slice he
    cases hv with | d _ _ hv =>
    cases hv with
    | f0 a cap => simp only [Int.ofNat_zero] at hlt; omega
    | fs cs n cap b off f hb ho hn hm hc hf hx =>
      refine ⟨.pointer (some ⟨b, off + i.toNat * s, none⟩), ?_, .d _ _ (.fp _ _ b off f hb ho hc hf hx)⟩
      simp [Instr.indexAt, asIntOf, run_underlying h1, h0, hlt, szO_run h2, add_eq]
  · obtain ⟨hlt, rfl, rfl⟩ := h
    obtain ⟨h1, h2⟩ := elO_slice he
    cases hv with
    | os _ _ _ _ cap b base sz t hp =>
      refine ⟨.pointer (some ⟨b, _ + i.toNat * _, none⟩), ?_, by rw [Nat.add_assoc]; exact .op _ _ b base hp⟩
      simp [Instr.indexAt, asIntOf, run_underlying h1, h0, hlt, szO_run h2, add_eq]
    | os0 => simp only [Int.ofNat_zero] at hlt; omega
  · obtain ⟨hlt, rfl⟩ := h
    obtain ⟨h1, h2⟩ := elO_array he
    obtain ⟨b, k, rfl, hr⟩ := offA_rd (w := w) (pl := pl) (own := own) (p := .d (.fp _ _)) (o := i.toNat * s) rfl hv
    refine ⟨_, ?_, hr⟩
    simp [Instr.indexAt, asIntOf, run_underlying h1, h0, hlt, szO_run h2, add_eq, Instr.sureAddr]
  · obtain ⟨hlt, rfl⟩ := h
    obtain ⟨h1, h2⟩ := elO_array he
    obtain ⟨b, k, rfl, hr⟩ := offA_rd (w := w) (pl := pl) (own := own) (p := .op _ _) (o := i.toNat * s) rfl hv
    refine ⟨_, ?_, hr⟩
    simp [Instr.indexAt, asIntOf, run_underlying h1, h0, hlt, szO_run h2, add_eq, Instr.sureAddr]
  · exact h.elim

/-! ### Parts of values -/
def partA (g : Bool) (cs : List AV) (o n : Nat) (x : AV) : Prop := if g then ∃ l, takeD cs o n = some l ∧ x = .agg l else cs[o]? = some x
theorem partA.run {t : TypeId} {g : Bool} {n o : Nat} (hg : agO P t = some g) (hn : szO P t = some n) {cs : List AV} {vs : Array Value} (hs : vs.size = cs.length) (hr : ∀ j x, cs[j]? = some x → Rd w pl own x (vs.getD j undef))
    {x : AV} (h : partA g cs o n x) : ∃ u, (part t vs o).run P w = .ok u w ∧ Rd w pl own x u := by
  unfold part
  simp only [Sem.run_bind, agO_run hg, Result.andThen_ok]
  cases g with
  | false =>
    have hlt := (List.getElem?_eq_some_iff.1 h).1
    refine ⟨vs.getD o undef, ?_, hr o x h⟩
    have : vs[o]? = some (vs.getD o undef) := by rw [Array.getElem?_eq_getElem (by omega)]; simp [Array.getD, hs, hlt]
    rw [if_neg (by decide), this]; rfl
  | true =>
    obtain ⟨l, hl, rfl⟩ := h
    obtain ⟨h1, h2⟩ := takeD_get hl
    have hb : o + n ≤ cs.length := by unfold takeD at hl; split at hl; (· assumption); (· cases hl)
    refine ⟨.agg (vs.extract o (o + n)), by rw [if_pos rfl, Sem.run_bind, szO_run hn]; rfl, .agg _ _ (by simp [hs]; omega) fun j y hj => ?_⟩
    have hjn : j < n := by have := (List.getElem?_eq_some_iff.1 hj).1; omega
    have e : (vs.extract o (o + n)).getD j undef = vs.getD (o + j) undef := by
      rw [Array.getD_eq_getD_getElem?, Array.getD_eq_getD_getElem?, Array.getElem?_extract, if_pos (by rw [hs]; omega)]
    rw [e]
    exact hr _ _ (by rw [← h2 j hjn]; exact hj)
/-- The parts of a value that has some. -/
def partsOf : AV → Option (List AV)
  | .agg cs => some cs
  | .d (.agg cs) => some (cs.map .d)
  | _ => none
theorem partsOf_rd {p : AV} {cs : List AV} (h : partsOf p = some cs) {v : Value} (hv : Rd w pl own p v) : ∃ vs, v = .agg vs ∧ vs.size = cs.length ∧ ∀ j x, cs[j]? = some x → Rd w pl own x (vs.getD j undef) := by
  unfold partsOf at h
  split at h
  · cases h
    cases hv with | agg _ vs hl hx => exact ⟨vs, rfl, hl, hx⟩
  · cases h
    cases hv with | d _ _ hv =>
    cases hv with | agg _ vs hl hx =>
    refine ⟨vs, rfl, by simpa using hl, fun j x hj => ?_⟩
    rw [List.getElem?_map, Option.map_eq_some_iff] at hj
    obtain ⟨y, hy, rfl⟩ := hj
    exact .d _ _ (hx j y hy)
  · cases h
def FieldQ (P : Program) (t : TypeId) (f : Nat) (p x : AV) : Prop := ∃ o n g cs, ftO P t f = some (o, n, g) ∧ partsOf p = some cs ∧ partA g cs o n x
theorem FieldQ.run {t : TypeId} {f : Nat} {p x : AV} (h : FieldQ P t f p x) {v : Value} (hv : Rd w pl own p v) : ∃ u, (Instr.field t v f).run P w = .ok u w ∧ Rd w pl own x u := by
  obtain ⟨o, n, g, cs, hf, hp, hx⟩ := h
  obtain ⟨vs, rfl, hs, hr⟩ := partsOf_rd hp hv
  unfold ftO at hf
  split at hf
  · rename_i fs hu
    split at hf
    · rename_i y hy
      split at hf
      · rename_i n' g' hn hg
        cases hf
        obtain ⟨u, h1, h2⟩ := partA.run hg hn hs hr hx
        exact ⟨u, by simp [Instr.field, run_underlying hu, hy, asAgg, h1], h2⟩
      · cases hf
    · cases hf
  · cases hf
def IndexQ (P : Program) (t : TypeId) (p ix x : AV) : Prop :=
  ∃ (kd : IntKind) (i : Int) (len : Nat) (e : TypeId) (s : Nat) (g : Bool) (cs : List AV), ix = .d (.val (.int kd i)) ∧ elO P t = some (some len, e, s) ∧ agO P e = some g ∧ partsOf p = some cs ∧ 0 ≤ i ∧ i < len ∧ partA g cs (i.toNat * s) s x
theorem IndexQ.run {t : TypeId} {p ix x : AV} (h : IndexQ P t p ix x) {v u : Value} (hv : Rd w pl own p v) (hu : Rd w pl own ix u) : ∃ z, (Instr.index t v u).run P w = .ok z w ∧ Rd w pl own x z := by
  obtain ⟨kd, i, len, e, s, g, cs, rfl, he, hg, hp, h0, hlt, hx⟩ := h
  cases hu with | d _ _ hu => cases hu with | val =>
  obtain ⟨vs, rfl, hs, hr⟩ := partsOf_rd hp hv
  obtain ⟨h1, h2⟩ := elO_array he
  obtain ⟨z, h3, h4⟩ := partA.run hg h2 hs hr hx
  exact ⟨z, by simp [Instr.index, asIntOf, run_underlying h1, h0, hlt, szO_run h2, h3], h4⟩

/-! ### Lengths -/
def LenQ (P : Program) (t : TypeId) (p : AV) (n : Int) : Prop :=
  match p with
  | .d (.fs _ m) => elO P t ≠ none ∧ (∃ e s, elO P t = some (none, e, s)) ∧ n = m
  | .os _ _ _ m => (∃ e s, elO P t = some (none, e, s)) ∧ n = m
  | .d (.val (.slice _ m _)) => (∃ e s, elO P t = some (none, e, s)) ∧ n = m
  | .d (.val (.string s)) => P.underlying t = some .string ∧ n = s.size
  | _ => ∃ k e s, elO P t = some (some k, e, s) ∧ n = k
theorem LenQ.run {t : TypeId} {p : AV} {n : Int} (h : LenQ P t p n) {v : Value} (hv : Rd w pl own p v) (ty : TypeId) : (Builtin.len_ #[t] ty #[v]).run P w = .ok (.int .i64 n) w := by
  unfold LenQ at h
  split at h
  · obtain ⟨_, ⟨e, s, he⟩, rfl⟩ := h
    have := (elO_slice he).1
    cases hv with | d _ _ hv => cases hv <;> simp [Builtin.len_, run_underlying this, goInt]
  · obtain ⟨⟨e, s, he⟩, rfl⟩ := h
    have := (elO_slice he).1
    cases hv <;> simp [Builtin.len_, run_underlying this, goInt]
  · obtain ⟨⟨e, s, he⟩, rfl⟩ := h
    have := (elO_slice he).1
    cases hv with | d _ _ hv => cases hv; simp [Builtin.len_, run_underlying this, goInt]
  · obtain ⟨hu, rfl⟩ := h
    cases hv with | d _ _ hv => cases hv; simp [Builtin.len_, run_underlying hu, goInt]
  · obtain ⟨k, e, s, he, rfl⟩ := h
    have := (elO_array he).1
    simp [Builtin.len_, run_underlying this, goInt]
end
end Go.Proofs.Ytfpcailbobjfnaa
