/- Of no program: the abstract machine's new objects, and stores into them. -/
import Derived.Test.YtfpcailbobjfnaaA5
import Derived.Laws.Tables
import Derived.Laws.CopyRow
import Derived.Laws.MakeOwn
set_option linter.unusedVariables false
set_option linter.unusedSimpArgs false
namespace Go.Proofs.Ytfpcailbobjfnaa
open Go Go.RowKit
section
variable {P : Program} {E : Nat → Prop} {w w' : World} {pl pl' : List (Option (Nat × Nat))} {H : AHeap} {sh : List (Nat × Nat)} {own own' : Nat → Prop}
theorem ObjAt.mono {id : Nat} {o : AObj} (h : ObjAt w pl own id o) (hs : w.heap.size ≤ w'.heap.size)
    (hb : ∀ b, b < w.heap.size → ¬ own b → w'.heap[b]? = w.heap[b]?) (hw : ∀ b, b < w.heap.size → own' b → own b)
    (hsh : ∀ b s, w.shape? b = some s → w'.shape? b = some s) (hp : ∀ (i : Nat) (p : Nat × Nat), pl[i]? = some (some p) → pl'[i]? = some (some p)) (hp0 : pl[id]? = some none → pl'[id]? = some none)
    (hblk : o.live = true → ∀ b c, pl[id]? = some (some (b, c)) → w'.heap[b]? = w.heap[b]?) : ObjAt w' pl' own' id o := by
  cases o with
  | free => exact hp0 h
  | dead => trivial
  | cells cs =>
    rcases h with ⟨h1, h2⟩ | ⟨b, base, arr, t, h1, h2, h3, h4⟩
    · exact .inl ⟨h1, hp0 h2⟩
    · exact .inr ⟨b, base, arr, t, hp _ _ h1, (hblk rfl _ _ h1).trans h2, h3, fun j x hj => ⟨(h4 j x hj).1.mono hs hb hw hsh hp, (h4 j x hj).2⟩⟩
  | map es clock =>
    obtain ⟨b, base, ms, h1, h2, h3, h5, h4⟩ := h
    exact ⟨b, base, ms, hp _ _ h1, (hblk rfl _ _ h1).trans h2, h3, h5, fun j e k n x hj hk => ⟨(h4 j e k n x hj hk).1, (h4 j e k n x hj hk).2.1, (h4 j e k n x hj hk).2.2.mono hs hb hw hsh hp⟩⟩
def RowRd (w : World) (pl : List (Option (Nat × Nat))) (own : Nat → Prop) (arr : Array Value) (base : Nat) (cs : List AV) : Prop :=
  base + cs.length ≤ arr.size ∧ ∀ j x, cs[j]? = some x → Rd w pl own x (arr.getD (base + j) undef) ∧ (arr.getD (base + j) undef).oneCell' = true
theorem shape_lt {b : Nat} {s : TypeId × Nat} (h : w.shape? b = some s) : b < w.heap.size := by
  unfold World.shape? at h
  split at h
  · rename_i hb; exact (Array.getElem?_eq_some_iff.1 hb).1
  · cases h
theorem shape_of_eq {b : Nat} (h : w'.heap[b]? = w.heap[b]?) : w'.shape? b = w.shape? b := by unfold World.shape?; rw [h]
theorem Stp.alloc (O : Nat → Prop) (w : World) (o : Obj) : Stp O w (w.alloc o) :=
  ⟨rfl, rfl, rfl, by simp, fun b hb _ => heap_alloc_old w o hb, fun b s hs => (shape_of_eq (heap_alloc_old w o (shape_lt hs))).trans hs⟩
theorem Stp.drew (O : Nat → Prop) (w : World) : Stp O w w.drew := ⟨rfl, rfl, rfl, Nat.le_refl _, fun _ _ _ => rfl, fun _ _ h => h⟩
theorem pl_ext {α : Type} (pl : List α) (x : α) (i : Nat) (p : α) (h : pl[i]? = some p) : (pl ++ [x])[i]? = some p := by
  rw [List.getElem?_append_left (List.getElem?_eq_some_iff.1 h).1]; exact h
theorem app_cases {α : Type} {l : List α} {x y : α} {i : Nat} (h : (l ++ [x])[i]? = some y) : (i < l.length ∧ l[i]? = some y) ∨ (i = l.length ∧ y = x) := by
  by_cases hi : i < l.length
  · exact .inl ⟨hi, by rwa [List.getElem?_append_left hi] at h⟩
  · rw [List.getElem?_append_right (by omega)] at h
    have : i - l.length = 0 := by
      by_cases h0 : i - l.length = 0
      · exact h0
      · rw [List.getElem?_eq_none (by simp; omega)] at h; cases h
    rw [this] at h
    exact .inr ⟨by omega, by simpa using h.symm⟩
theorem set_cases {α : Type} {l : List α} {i j : Nat} {x y : α} (h : (l.set i x)[j]? = some y) : (j = i ∧ y = x ∧ i < l.length) ∨ (j ≠ i ∧ l[j]? = some y) := by
  by_cases hj : j = i
  · subst hj
    have hlt := (List.getElem?_eq_some_iff.1 h).1
    rw [List.length_set] at hlt
    rw [List.getElem?_set_self hlt] at h
    exact .inl ⟨rfl, (Option.some.inj h).symm, hlt⟩
  · rw [List.getElem?_set_ne (Ne.symm hj)] at h
    exact .inr ⟨hj, h⟩
theorem set_ne {α : Type} {l : List α} {i j : Nat} {x : α} (h : j ≠ i) : (l.set i x)[j]? = l[j]? := List.getElem?_set_ne (Ne.symm h)
theorem set_self {α : Type} {l : List α} {i : Nat} {x y : α} (h : l[i]? = some y) : (l.set i x)[i]? = some x := List.getElem?_set_self (List.getElem?_eq_some_iff.1 h).1
/-- Places that were filled stay. -/
theorem pl_set {pl : List (Option (Nat × Nat))} {n : Nat} {q : Option (Nat × Nat)} (hn : pl[n]? = some none) (i : Nat) (p : Nat × Nat) (h : pl[i]? = some (some p)) : (pl.set n q)[i]? = some (some p) := by
  by_cases hi : i = n
  · subst hi; rw [hn] at h; cases h
  · rw [set_ne hi]; exact h
theorem RelH.free_place (h : RelH E w pl H sh) {n : Nat} (hn : H[n]? = some .free) : pl[n]? = some none := h.obj n _ hn
/-- Where an object of the new heap lies. -/
theorem RelH.place (_h : RelH E w pl H sh) {n : Nat} {o : AObj} {q : Option (Nat × Nat)} (i : Nat) (oo : AObj) (p : Nat × Nat) (h1 : (H.set n o)[i]? = some oo) (h2 : (pl.set n q)[i]? = some (some p)) : (i ≠ n ∧ H[i]? = some oo ∧ pl[i]? = some (some p)) ∨ (i = n ∧ oo = o ∧ q = some p) := by
  rcases set_cases h1 with ⟨k0, k1, _⟩ | ⟨k1, k2⟩
  · subst k0
    rcases set_cases h2 with ⟨_, k3, _⟩ | ⟨k3, _⟩
    · exact .inr ⟨rfl, k1, k3.symm⟩
    · exact absurd rfl k3
  · rw [set_ne k1] at h2; exact .inl ⟨k1, k2, h2⟩
/-- A new object in a new block. -/
theorem RelH.fresh (h : RelH E w pl H sh) (hE : ∀ b, E b → b < w.heap.size) {n : Nat} (hn : H[n]? = some .free) (hsn : ∀ p ∈ sh, p.1 ≠ n ∧ p.2 ≠ n) (ob : Obj) (o : AObj) (ho : ObjAt (w.alloc ob) (pl.set n (some (w.heap.size, 0))) (ownB E (H.set n o) (pl.set n (some (w.heap.size, 0)))) n o) :
    RelH E (w.alloc ob) (pl.set n (some (w.heap.size, 0))) (H.set n o) sh := by
  have hp0 := h.free_place hn
  have hlt : ∀ (id : Nat) (oo : AObj) (p : Nat × Nat), H[id]? = some oo → oo.live = true → pl[id]? = some (some p) → p.1 < w.heap.size := fun id oo p h1 h2 h3 => h.block_lt h1 h2 h3
  have hplace := fun i oo p h1 h2 => h.place (n := n) (o := o) (q := some (w.heap.size, 0)) i oo p h1 h2
  refine ⟨by simp [h.len], fun id oo hid => ?_, fun i j oi oj p q h1 h2 l1 l2 hne s1 s2 p1 p2 => ?_, fun i oo p h1 l1 p1 => ?_, fun p hp => by have := h.shl p hp; simpa using this, fun i j ci cj p q hm h1 h2 p1 p2 hpq => ?_⟩
  · rcases set_cases hid with ⟨hi, rfl, _⟩ | ⟨hi, hid⟩
    · subst hi; exact ho
    · refine (h.obj id oo hid).mono (by simp) (fun b hb _ => heap_alloc_old w ob hb) (fun b hb hb' => ?_) (fun b s hs => (shape_of_eq (heap_alloc_old w ob (shape_lt hs))).trans hs) (pl_set hp0) (fun hh => by rw [set_ne hi]; exact hh) (fun hl b c hbc => heap_alloc_old w ob (hlt id oo _ hid hl hbc))
      rcases hb' with hb' | ⟨i, oo', c, h1, h2, h3⟩
      · exact .inl hb'
      · rcases hplace i oo' (b, c) h1 h3 with ⟨_, k1, k2⟩ | ⟨_, _, k⟩
        · exact .inr ⟨i, oo', c, k1, h2, k2⟩
        · cases k; omega
  · rcases hplace i oi p h1 p1 with ⟨_, a1, a2⟩ | ⟨a0, a1, a2⟩ <;> rcases hplace j oj q h2 p2 with ⟨_, b1, b2⟩ | ⟨b0, b1, b2⟩
    · exact h.dis i j oi oj p q a1 b1 l1 l2 hne s1 s2 a2 b2
    · have := hlt i oi p a1 l1 a2; cases b2; simp only; omega
    · have := hlt j oj q b1 l2 b2; cases a2; simp only; omega
    · omega
  · rcases hplace i oo p h1 p1 with ⟨_, a1, a2⟩ | ⟨a0, a1, a2⟩
    · exact h.ext i oo p a1 l1 a2
    · cases a2; intro he; have := hE _ he; simp only at this; omega
  · rcases hplace i _ p h1 p1 with ⟨_, a1, a2⟩ | ⟨a0, a1, a2⟩
    · rcases hplace j _ q h2 p2 with ⟨_, b1, b2⟩ | ⟨b0, b1, b2⟩
      · exact h.shr i j ci cj p q hm a1 b1 a2 b2 hpq
      · exact absurd b0 (hsn _ hm).2
    · exact absurd a0 (hsn _ hm).1
end
end Go.Proofs.Ytfpcailbobjfnaa
