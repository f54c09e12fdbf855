/- Of no program: the abstract machine's literals, reslices, least and greatest. -/
import Derived.Test.YtfpcailbobjfnaaA11
set_option linter.unusedVariables false
set_option linter.unusedSimpArgs false
namespace Go.Proofs.Ytfpcailbobjfnaa
open Go Go.RowKit
section
variable {P : Program} {c : Cx} {τ : Fr} {a : Act} {w w' : World} {pl pl' : List (Option (Nat × Nat))} {H : AHeap} {sh sh' : List (Nat × Nat)} {own : Nat → Prop}
theorem foldl_set_getD (off : Nat) : ∀ (vs : List Value) (k : Nat) (arr : Array Value), off + k + vs.length ≤ arr.size →
    ((vs.zipIdx k).foldl (fun cs (p : Value × Nat) => cs.setIfInBounds (off + p.2) p.1) arr).size = arr.size ∧
    ∀ q, ((vs.zipIdx k).foldl (fun cs (p : Value × Nat) => cs.setIfInBounds (off + p.2) p.1) arr).getD q undef = if off + k ≤ q ∧ q < off + k + vs.length then vs.getD (q - (off + k)) undef else arr.getD q undef
  | [], k, arr, _ => ⟨rfl, fun q => by rw [if_neg (by simp only [List.length_nil]; omega)]; rfl⟩
  | v :: vs, k, arr, h => by
    simp only [List.length_cons] at h
    obtain ⟨h1, h2⟩ := foldl_set_getD off vs (k + 1) (arr.setIfInBounds (off + k) v) (by simp; omega)
    rw [List.zipIdx_cons, List.foldl_cons]
    refine ⟨by rw [h1]; simp, fun q => ?_⟩
    rw [h2]
    simp only [List.length_cons]
    by_cases hq : q = off + k
    · subst hq
      rw [if_neg (by omega), if_pos (by omega), Nat.sub_self]
      simp [Array.getD, show off + k < arr.size by omega]
    · have e : (arr.setIfInBounds (off + k) v).getD q undef = arr.getD q undef := by
        simp [Array.getD_eq_getD_getElem?, Array.getElem?_setIfInBounds_ne (Ne.symm hq)]
      rw [e]
      by_cases h3 : off + (k + 1) ≤ q ∧ q < off + (k + 1) + vs.length
      · rw [if_pos h3, if_pos (by omega), show q - (off + k) = (q - (off + (k + 1))) + 1 by omega]; rfl
      · rw [if_neg h3, if_neg (by omega)]
def fillA (place : Nat → Option (Nat × Nat)) : List AV → List (Nat × AV) → Option (List AV)
  | cells, [] => some cells
  | cells, (i, x) :: rest => match place i with
    | none => none
    | some (off, size) => match asCells x with
      | none => none
      | some l => if l.length ≠ size ∨ off + l.length > cells.length then none else fillA place (setMany cells off l) rest
theorem fill_rd (place : Nat → Option (Nat × Nat)) : ∀ (parts : List (Nat × AV)) (vparts : List (Nat × Value)) (cs cs' : List AV) (arr : Array Value), vparts.length = parts.length → (∀ (j i : Nat) (x : AV), parts[j]? = some (i, x) → ∃ v, vparts[j]? = some (i, v) ∧ Rd w pl own x v) →
    RowRd w pl own arr 0 cs → arr.size = cs.length → fillA place cs parts = some cs' → ∃ arr', Instr.fill place arr vparts = some arr' ∧ RowRd w pl own arr' 0 cs' ∧ arr'.size = cs'.length ∧ cs'.length = cs.length
  | [], vparts, cs, cs', arr, hl, _, hr, hs, h => by
    have : vparts = [] := List.eq_nil_of_length_eq_zero hl
    subst this
    cases h
    exact ⟨arr, rfl, hr, hs, rfl⟩
  | (i, x) :: rest, vparts, cs, cs', arr, hl, hp, hr, hs, h => by
    obtain ⟨v, hv, hx⟩ := hp 0 i x rfl
    cases vparts with
    | nil => cases hl
    | cons p vrest =>
      have hpe : p = (i, v) := by simpa using hv
      subst hpe
      unfold fillA at h
      split at h
      · cases h
      · rename_i off size hpl
        split at h
        · cases h
        · rename_i l hc
          split at h
          · cases h
          · rename_i hn
            obtain ⟨h1, h2, _⟩ := asCells_rd hc hx
            have hsz : l.length = size := by omega
            have hfit : off + l.length ≤ cs.length := by omega
            obtain ⟨g1, g2⟩ := foldl_set_getD off v.cells.toList 0 arr (by simp only [Array.length_toList]; omega)
            simp only [Nat.add_zero, Array.length_toList] at g1 g2
            have e : v.cells.zipIdx.foldl (fun cs (x : Value × Nat) => match x with | (c, j) => cs.setIfInBounds (off + j) c) arr = (v.cells.toList.zipIdx 0).foldl (fun cs (p : Value × Nat) => cs.setIfInBounds (off + p.2) p.1) arr := by
              rw [← Array.foldl_toList, Array.toList_zipIdx]
            have hrow : RowRd w pl own ((v.cells.toList.zipIdx 0).foldl (fun cs (p : Value × Nat) => cs.setIfInBounds (off + p.2) p.1) arr) 0 (setMany cs off l) := by
              refine ⟨by rw [setMany_len, g1]; exact hr.1, fun j y hj => ?_⟩
              rw [setMany_get l cs off j hfit] at hj
              rw [Nat.zero_add, g2]
              by_cases h3 : off ≤ j ∧ j < off + l.length
              · rw [if_pos h3] at hj
                rw [if_pos (by omega)]
                have := h1.2 _ y hj
                rw [Nat.zero_add, Array.getD_eq_getD_getElem?] at this
                rw [List.getD_eq_getElem?_getD, Array.getElem?_toList]; exact this
              · rw [if_neg h3] at hj
                rw [if_neg (by omega)]
                have := hr.2 _ y hj
                rwa [Nat.zero_add] at this
            obtain ⟨arr', k1, k2, k3, k4⟩ := fill_rd place rest vrest (setMany cs off l) cs' _ (by simpa using hl) (fun j i x hj => hp (j + 1) i x hj) hrow (by rw [g1, setMany_len]; exact hs) h
            refine ⟨arr', ?_, k2, k3, by rw [k4, setMany_len]⟩
            unfold Instr.fill
            rw [hpl]
            simp only
            rw [if_neg (by simp only [h2, hs, ne_eq, not_or, Bool.or_eq_true, decide_eq_true_eq]; omega), e]
            exact k1
/-- Where part i of a value of this type lies. -/
def plO (P : Program) (t : TypeId) (i : Nat) : Option (Nat × Nat) :=
  match P.underlying t with
  | some (.struct fs) => match fs[i]? with
    | some f => (szO P f.type).map fun n => (f.offset, n)
    | none => none
  | some (.array _ e) => (szO P e).map fun n => (i * n, n)
  | _ => none
/-- Every field has a size. -/
def plAll (P : Program) (t : TypeId) : Bool :=
  match P.underlying t with
  | some (.struct fs) => fs.all fun f => (szO P f.type).isSome
  | some (.array _ e) => (szO P e).isSome
  | _ => false
end
end Go.Proofs.Ytfpcailbobjfnaa
