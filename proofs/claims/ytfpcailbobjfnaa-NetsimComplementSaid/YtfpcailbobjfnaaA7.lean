/- Of no program: the abstract machine's operations that lay or write objects. -/
import Derived.Test.YtfpcailbobjfnaaA6
set_option linter.unusedVariables false
set_option linter.unusedSimpArgs false
namespace Go.Proofs.Ytfpcailbobjfnaa
open Go Go.RowKit
section
variable {P : Program} {c : Cx} {τ : Fr} {a : Act} {w w' : World} {pl pl' : List (Option (Nat × Nat))} {H : AHeap} {sh : List (Nat × Nat)} {own : Nat → Prop}
theorem RelS.lt (h : RelS c τ H sh pl a w) : ∀ b, c.E b → b < w.heap.size := fun b hb => Nat.lt_of_lt_of_le (h.ext b hb) h.stp.size
/-- A new object in a new block, at the state. -/
theorem RelS.fresh (h : RelS c τ H sh pl a w) {n : Nat} (hn : H[n]? = some .free) (hsn : ∀ p ∈ sh, p.1 ≠ n ∧ p.2 ≠ n) (ob : Obj) (o : AObj) (ho : ObjAt (w.alloc ob) (pl.set n (some (w.heap.size, 0))) (ownB c.E (H.set n o) (pl.set n (some (w.heap.size, 0)))) n o) :
    RelS c τ (H.set n o) sh (pl.set n (some (w.heap.size, 0))) a (w.alloc ob) := by
  refine h.step (Stp.alloc _ _ _) (pl_set (h.h.free_place hn)) (fun b hb => ?_) (h.h.fresh h.lt hn hsn ob o ho)
  obtain ⟨id, oo, k, h1, h2, h3⟩ := hb
  rcases h.h.place id oo _ h1 h3 with ⟨_, k1, k2⟩ | ⟨_, _, k2⟩
  · exact .inl ⟨id, oo, k, k1, h2, k2⟩
  · cases k2; exact .inr (Nat.le_refl _)
/-- Readings in the world before a new block hold behind it. -/
theorem Rd.fresh {x : AV} {v : Value} (hx : Rd w pl (ownB c.E H pl) x v) (h : RelS c τ H sh pl a w) {n : Nat} (hn : H[n]? = some .free) (ob : Obj) (o : AObj) : Rd (w.alloc ob) (pl.set n (some (w.heap.size, 0))) (ownB c.E (H.set n o) (pl.set n (some (w.heap.size, 0)))) x v := by
  refine hx.mono (by simp) (fun b hb _ => heap_alloc_old w ob hb) (fun b hb hb' => ?_) (fun b s hs => (shape_of_eq (heap_alloc_old w ob (shape_lt hs))).trans hs) (pl_set (h.h.free_place hn))
  rcases hb' with hb' | ⟨i, oo', k, h1, h2, h3⟩
  · exact .inl hb'
  · rcases h.h.place i oo' _ h1 h3 with ⟨_, k1, k2⟩ | ⟨_, _, k2⟩
    · exact .inr ⟨i, oo', k, k1, h2, k2⟩
    · cases k2; omega
theorem place_new (h : RelS c τ H sh pl a w) {n : Nat} (hn : H[n]? = some .free) (p : Option (Nat × Nat)) : (pl.set n p)[n]? = some p := set_self (h.h.free_place hn)
theorem RelS.freshRow (h : RelS c τ H sh pl a w) {n : Nat} (hn : H[n]? = some .free) (hsn : ∀ p ∈ sh, p.1 ≠ n ∧ p.2 ≠ n) {arr : Array Value} {cs : List AV} (hr : RowRd w pl (ownB c.E H pl) arr 0 cs) (t : TypeId) :
    RelS c τ (H.set n (.cells cs)) sh (pl.set n (some (w.heap.size, 0))) a (w.alloc (.cells arr t)) :=
  h.fresh hn hsn _ _ (.inr ⟨w.heap.size, 0, arr, t, place_new h hn _, heap_alloc_new w _, hr.1, fun j x hj => ⟨((hr.2 j x hj).1).fresh h hn _ _, (hr.2 j x hj).2⟩⟩)
/-- A place is kept free. -/
theorem RelS.reserve (h : RelS c τ H sh pl a w) : RelS c τ (H ++ [.free]) sh (pl ++ [none]) a w := by
  have hplace : ∀ (i : Nat) (oo : AObj) (p : Nat × Nat), (H ++ [.free])[i]? = some oo → (pl ++ [none])[i]? = some (some p) → (H[i]? = some oo ∧ pl[i]? = some (some p)) := by
    intro i oo p h1 h2
    rcases app_cases h2 with ⟨k3, k4⟩ | ⟨_, k3⟩
    · rcases app_cases h1 with ⟨_, k2⟩ | ⟨k1, _⟩
      · exact ⟨k2, k4⟩
      · have := h.h.len; omega
    · cases k3
  have hown : ∀ k, ownB c.E (H ++ [.free]) (pl ++ [none]) k → ownB c.E H pl k := fun k hk => by
    rcases hk with hk | ⟨i, o, e, h1, h2, h3⟩
    · exact .inl hk
    · obtain ⟨k1, k2⟩ := hplace i o _ h1 h3
      exact .inr ⟨i, o, e, k1, h2, k2⟩
  refine h.step (Stp.refl _ _) (fun i p hp => pl_ext _ _ _ _ hp) (fun b hb => ?_) ⟨by simp [h.h.len], fun i o hi => ?_, fun i j oi oj p q h1 h2 l1 l2 hne s1 s2 p1 p2 => ?_, fun i o p h1 l1 p1 => ?_, fun p hp => by have := h.h.shl p hp; simp; omega, fun i j ci cj p q hm h1 h2 p1 p2 hpq => ?_⟩
  · obtain ⟨i, o, e, h1, h2, h3⟩ := hb
    obtain ⟨k1, k2⟩ := hplace i o _ h1 h3
    exact .inl ⟨i, o, e, k1, h2, k2⟩
  · rcases app_cases hi with ⟨_, hi⟩ | ⟨rfl, rfl⟩
    · exact (h.h.obj i o hi).mono (Nat.le_refl _) (fun _ _ _ => rfl) (fun b _ hb => hown b hb) (fun _ _ h => h) (fun i p hp => pl_ext _ _ _ _ hp) (fun hp => pl_ext _ _ _ _ hp) (fun _ _ _ _ => rfl)
    · show (pl ++ [none])[H.length]? = some none
      rw [← h.h.len, List.getElem?_append_right (Nat.le_refl _)]; simp
  · obtain ⟨a1, a2⟩ := hplace i oi p h1 p1
    obtain ⟨b1, b2⟩ := hplace j oj q h2 p2
    exact h.h.dis i j oi oj p q a1 b1 l1 l2 hne s1 s2 a2 b2
  · obtain ⟨a1, a2⟩ := hplace i o p h1 p1
    exact h.h.ext i o p a1 l1 a2
  · obtain ⟨a1, a2⟩ := hplace i _ p h1 p1
    obtain ⟨b1, b2⟩ := hplace j _ q h2 p2
    exact h.h.shr i j ci cj p q hm a1 b1 a2 b2 hpq

/-! ### Cells of a value -/
theorem asCells_rd {x : AV} {cs : List AV} (h : asCells x = some cs) {v : Value} (hv : Rd w pl own x v) : RowRd w pl own v.cells 0 cs ∧ v.cells.size = cs.length ∧ ∀ u ∈ v.cells.toList, u.oneCell' = true := by
  have many : ∀ (l : List AV) (vs : Array Value), vs.size = l.length → (∀ j x, l[j]? = some x → Rd w pl own x (vs.getD j undef)) → l.all AV.one = true → RowRd w pl own vs 0 l ∧ vs.size = l.length ∧ ∀ u ∈ vs.toList, u.oneCell' = true := by
    intro l vs hl hx h1
    have hone : ∀ j x, l[j]? = some x → (vs.getD j undef).oneCell' = true := fun j x hj => (hx j x hj).one (List.all_eq_true.1 h1 x (List.mem_of_getElem? hj))
    refine ⟨⟨by omega, fun j x hj => ⟨by rw [Nat.zero_add]; exact hx j x hj, by rw [Nat.zero_add]; exact hone j x hj⟩⟩, hl, fun u hu => ?_⟩
    obtain ⟨j, hj, rfl⟩ := List.mem_iff_getElem.1 hu
    have hjl : j < l.length := by simpa [← hl] using hj
    have := hone j _ (List.getElem?_eq_getElem hjl)
    simpa [Array.getD, hl, hjl] using this
  have single : ∀ v : Value, v.oneCell' = true → Rd w pl own x v → RowRd w pl own v.cells 0 [x] ∧ v.cells.size = 1 ∧ ∀ u ∈ v.cells.toList, u.oneCell' = true := by
    intro v h1 hx
    have hc : v.cells = #[v] := by cases v <;> first | rfl | cases h1
    rw [hc]
    refine ⟨⟨by simp, fun j y hj => ?_⟩, rfl, by simpa using h1⟩
    have hlt := (List.getElem?_eq_some_iff.1 hj).1
    have : j = 0 := by simpa using hlt
    subst this
    have e : y = x := by simpa using hj.symm
    subst e
    exact ⟨by simpa [Array.getD] using hx, by simpa [Array.getD] using h1⟩
  unfold asCells at h
  split at h
  · split at h
    · rename_i h1
      cases h
      cases hv with | agg _ vs hl hx => exact many _ vs hl hx h1
    · cases h
  · split at h
    · rename_i h1
      cases h
      cases hv with | d _ _ hv =>
      cases hv with | agg _ vs hl hx =>
      refine many _ vs (by simpa using hl) (fun j x hj => ?_) (by simpa [List.all_map, Function.comp_def, AV.one] using h1)
      rw [List.getElem?_map, Option.map_eq_some_iff] at hj
      obtain ⟨y, hy, rfl⟩ := hj
      exact .d _ _ (hx j y hy)
    · cases h
  · split at h
    · rename_i h1
      cases h
      exact single v (hv.one h1) hv
    · cases h

/-! ### A row is written -/
def setMany : List AV → Nat → List AV → List AV
  | cs, _, [] => cs
  | cs, i, x :: l => setMany (cs.set i x) (i + 1) l
theorem setMany_len : ∀ (l cs : List AV) (i : Nat), (setMany cs i l).length = cs.length
  | [], _, _ => rfl
  | x :: l, cs, i => by rw [setMany, setMany_len l]; simp
theorem setMany_get : ∀ (l cs : List AV) (i j : Nat), i + l.length ≤ cs.length → (setMany cs i l)[j]? = if i ≤ j ∧ j < i + l.length then l[j - i]? else cs[j]?
  | [], cs, i, j, _ => by rw [setMany, if_neg (by simp only [List.length_nil]; omega)]
  | x :: l, cs, i, j, h => by
    simp only [List.length_cons] at h
    rw [setMany, setMany_get l (cs.set i x) (i + 1) j (by simp; omega)]
    simp only [List.length_cons]
    by_cases h1 : i + 1 ≤ j ∧ j < i + 1 + l.length
    · rw [if_pos h1, if_pos (by omega), show j - i = (j - (i + 1)) + 1 by omega, List.getElem?_cons_succ]
    · rw [if_neg h1]
      by_cases h2 : j = i
      · subst h2
        rw [if_pos (by omega), Nat.sub_self, List.getElem?_cons_zero, List.getElem?_set_self (by omega)]
      · rw [if_neg (by omega), List.getElem?_set_ne (Ne.symm h2)]
theorem RowRd.write {arr : Array Value} {base i : Nat} {cs l : List AV} (h : RowRd w pl own arr base cs) {vs : List Value} (hl : vs.length = l.length) (hi : i + l.length ≤ cs.length)
    (hv : ∀ j x, l[j]? = some x → Rd w pl own x (vs.getD j undef) ∧ (vs.getD j undef).oneCell' = true) :
    RowRd w pl own (arr.toList.take (base + i) ++ vs ++ arr.toList.drop (base + i + vs.length)).toArray base (setMany cs i l) ∧
      (arr.toList.take (base + i) ++ vs ++ arr.toList.drop (base + i + vs.length)).toArray.size = arr.size := by
  have hb := h.1
  have hsz : (arr.toList.take (base + i) ++ vs ++ arr.toList.drop (base + i + vs.length)).toArray.size = arr.size := by simp; omega
  refine ⟨⟨by rw [hsz, setMany_len]; exact hb, fun j x hj => ?_⟩, hsz⟩
  rw [setMany_get l cs i j hi] at hj
  have hget : ∀ k, (arr.toList.take (base + i) ++ vs ++ arr.toList.drop (base + i + vs.length)).toArray.getD k undef = if base + i ≤ k ∧ k < base + i + vs.length then vs.getD (k - (base + i)) undef else arr.getD k undef := by
    intro k
    rw [Array.getD_eq_getD_getElem?, List.getElem?_toArray]
    have hlt : (arr.toList.take (base + i)).length = base + i := by simp; omega
    by_cases h1 : k < base + i
    · rw [if_neg (by omega), List.append_assoc, List.getElem?_append_left (by omega), List.getElem?_take_of_lt h1, Array.getD_eq_getD_getElem?, Array.getElem?_toList]
    · by_cases h2 : k < base + i + vs.length
      · rw [if_pos (by omega), List.append_assoc, List.getElem?_append_right (by omega), hlt, List.getElem?_append_left (by omega), List.getD_eq_getElem?_getD]
      · rw [if_neg (by omega), List.getElem?_append_right (by simp; omega), List.length_append, hlt, List.getElem?_drop, Array.getD_eq_getD_getElem?, Array.getElem?_toList, show base + i + vs.length + (k - (base + i + vs.length)) = k by omega]
  rw [hget]
  by_cases h1 : i ≤ j ∧ j < i + l.length
  · rw [if_pos h1] at hj
    rw [if_pos (by omega), show base + j - (base + i) = j - i by omega]
    exact hv _ _ hj
  · rw [if_neg h1] at hj
    rw [if_neg (by omega)]
    exact h.2 j x hj
theorem setRow_shape (w : World) (b : Nat) (arr arr' : Array Value) (t : TypeId) (hg : w.heap[b]? = some (.cells arr t (0, 0))) (hsz : arr'.size = arr.size) (k : Nat) (s : TypeId × Nat) (hs : w.shape? k = some s) : (w.setRow b arr').shape? k = some s := by
  by_cases hk : k = b
  · subst hk
    unfold World.shape? at hs ⊢
    rw [hg] at hs
    rw [setRow_heap w k arr arr' t _ hg]
    simp only at hs ⊢
    rw [hsz]; exact hs
  · rw [shape_of_eq (setRow_other w b k arr' hk)]; exact hs
theorem RelS.write (h : RelS c τ H sh pl a w) {id b base : Nat} {cs cs' : List AV} {arr arr' : Array Value} {t : TypeId} (hid : H[id]? = some (.cells cs)) (hp : pl[id]? = some (some (b, base))) (hg : w.heap[b]? = some (.cells arr t (0, 0)))
    (hsh : ∀ p ∈ sh, p.1 ≠ id ∧ p.2 ≠ id) (hsz : arr'.size = arr.size) (hr : RowRd w pl (ownB c.E H pl) arr' base cs') : RelS c τ (H.set id (.cells cs')) sh pl a (w.setRow b arr') := by
  have hstp : Stp (ownL H pl) w (w.setRow b arr') := ⟨rfl, rfl, rfl, by simp, fun k hk hn => setRow_other w b k arr' (fun e => hn (e ▸ ⟨id, _, base, hid, rfl, hp⟩)), setRow_shape w b arr arr' t hg hsz⟩
  have hown : ∀ k, ownB c.E (H.set id (.cells cs')) pl k → ownB c.E H pl k := fun k hk => by
    rcases hk with hk | ⟨i, o, e, h1, h2, h3⟩
    · exact .inl hk
    · rcases set_cases h1 with ⟨rfl, rfl, _⟩ | ⟨_, h1⟩
      · exact .inr ⟨i, .cells cs, e, hid, rfl, h3⟩
      · exact .inr ⟨i, o, e, h1, h2, h3⟩
  have hmono : ∀ x v, Rd w pl (ownB c.E H pl) x v → Rd (w.setRow b arr') pl (ownB c.E (H.set id (.cells cs')) pl) x v := fun x v hx =>
    hx.mono (by simp) (fun k hk hn => hstp.block k hk (fun hl => hn (.inr hl))) (fun k _ hk => hown k hk) hstp.shape (fun _ _ h => h)
  refine h.step hstp (fun _ _ h => h) (fun k hk => ?_) ⟨by simp [h.h.len], fun i o hi => ?_, fun i j oi oj p q h1 h2 l1 l2 hne s1 s2 p1 p2 => ?_, fun i o p h1 l1 p1 => ?_, fun p hp => by have := h.h.shl p hp; simpa using this, fun i j ci cj p q hm h1 h2 p1 p2 hpq => ?_⟩
  · obtain ⟨i, o, e, h1, h2, h3⟩ := hk
    rcases set_cases h1 with ⟨rfl, rfl, _⟩ | ⟨_, h1⟩
    · exact .inl ⟨i, .cells cs, e, hid, rfl, h3⟩
    · exact .inl ⟨i, o, e, h1, h2, h3⟩
  · rcases set_cases hi with ⟨rfl, rfl, _⟩ | ⟨hne, hi⟩
    · exact .inr ⟨b, base, arr', t, hp, setRow_heap w b arr arr' t _ hg, hr.1, fun j x hj => ⟨hmono _ _ (hr.2 j x hj).1, (hr.2 j x hj).2⟩⟩
    · refine (h.h.obj i o hi).mono (by simp) (fun k hk hn => hstp.block k hk (fun hl => hn (.inr hl))) (fun k _ hk => hown k hk) hstp.shape (fun _ _ h => h) (fun h => h) (fun hl b' e hb' => setRow_other w b b' arr' ?_)
      have := h.h.dis i id o _ _ _ hi hid hl rfl hne (fun hm => (hsh _ hm).2 rfl) (fun hm => (hsh _ hm).1 rfl) hb' hp
      exact this
  · have conv : ∀ (i : Nat) (o : AObj), (H.set id (.cells cs'))[i]? = some o → o.live = true → ∃ o' : AObj, H[i]? = some o' ∧ o'.live = true := fun i o h1 l1 => by
      rcases set_cases h1 with ⟨rfl, rfl, _⟩ | ⟨_, h1⟩
      · exact ⟨_, hid, rfl⟩
      · exact ⟨o, h1, l1⟩
    obtain ⟨oi', a1, a2⟩ := conv i oi h1 l1
    obtain ⟨oj', b1, b2⟩ := conv j oj h2 l2
    exact h.h.dis i j oi' oj' p q a1 b1 a2 b2 hne s1 s2 p1 p2
  · rcases set_cases h1 with ⟨rfl, rfl, _⟩ | ⟨_, h1⟩
    · exact h.h.ext i _ p hid rfl p1
    · exact h.h.ext i o p h1 l1 p1
  · rcases set_cases h1 with ⟨e1, _, _⟩ | ⟨_, h1⟩
    · exact absurd e1 (hsh _ hm).1
    · rcases set_cases h2 with ⟨e2, _, _⟩ | ⟨_, h2⟩
      · exact absurd e2 (hsh _ hm).2
      · exact h.h.shr i j ci cj p q hm h1 h2 p1 p2 hpq
end
end Go.Proofs.Ytfpcailbobjfnaa
