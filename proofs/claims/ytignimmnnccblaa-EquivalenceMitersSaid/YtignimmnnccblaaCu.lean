/- The chapter's examples: the calls. -/
import Derived.Test.YtignimmnnccblaaCt
set_option linter.unusedVariables false
set_option linter.unusedSimpArgs false
namespace Go.Proofs.Ytignimmnnccblaa
open Go Go.RowKit
theorem RCalls.det {P : Program} {f : FuncId} {ds : List D} {Q : AV → Prop} {x : AV} (h : RCalls P f ds Q) (hQ : ∀ r, Q r → r = x) : za9 P f ds x :=
 ⟨h.1, fun w O vals hl hx hO => (h.2 w O vals hl hx hO).mono fun e w' ⟨v, r, he, hq, hr, hb⟩ => ⟨v, he, hQ r hq ▸ hr, hb⟩⟩
theorem zua : ∀ (t : T) (acc : List T), (zd8 t acc).length ≤ acc.length + t.sz
 | .leaf _, acc => Nat.le_add_right _ _
 | .node v l h, acc => by
  have h1 := zua l acc
  have h2 := zua h (zd8 l acc)
  unfold zd8
  split
  ·omega
  ·simp only [List.length_append, List.length_cons, List.length_nil, T.sz]; omega
theorem zub : ∀ (fs : List T) (acc : List T), (fs.foldl (fun acc t => zd8 t acc) acc).length ≤ acc.length + (fs.map T.sz).sum
 | [], acc => by simp
 | t :: fs, acc => by
  have := zub fs (zd8 t acc)
  have := zua t acc
  simp only [List.foldl_cons, List.map_cons, List.sum_cons]; omega
theorem jll {V : Nat} : ∀ {t : T} {k : Nat}, t.Ok V k → k ≤ V → t.sz + 1 ≤ 2 ^ (V - k + 1)
 | .leaf b, k, _, _ => by
  have : 2 ^ 1 ≤ 2 ^ (V - k + 1) := Nat.pow_le_pow_right (by decide) (by omega)
  simp [T.sz]; omega
 | .node v l h, k, ht, hk => by
  have h1 := ht.1
  have h2 := ht.2.1
  have hl := jll (k := v + 1) ht.2.2.2.1 (by omega)
  have hh := jll (k := v + 1) ht.2.2.2.2 (by omega)
  have e : 2 ^ (V - v + 1) = 2 ^ (V - (v + 1) + 1) + 2 ^ (V - (v + 1) + 1) := by
   rw [show V - v + 1 = (V - (v + 1) + 1) + 1 by omega, Nat.pow_succ]; omega
  have := Nat.pow_le_pow_right (n := 2) (by decide) (show V - v + 1 ≤ V - k + 1 by omega)
  simp only [T.sz]; omega
theorem jjz {l : List Nat} {b : Nat} (h : ∀ x ∈ l, x ≤ b) : l.sum ≤ l.length * b := by
 induction l with
 | nil => simp
 | cons x l ih =>
  have := h x (List.mem_cons_self ..)
  have := ih fun y hy => h y (List.mem_cons_of_mem _ hy)
  simp only [List.sum_cons, List.length_cons, Nat.succ_mul]; omega
theorem zqx {V ins : Nat} {sh : Sh} {gates : List Gate} {j : Nat} {fs : List T} (h : FsP V ins sh gates j fs) (hV : V ≤ 4) (hl : 2 + ins + j ≤ 20) : ¬ 3000 < (zeq fs).length := by
 have h1 := zub fs []
 have h2 : (fs.map T.sz).sum ≤ (fs.map T.sz).length * 32 := jjz fun x hx => by
  obtain ⟨t, ht, rfl⟩ := List.mem_map.1 hx
  have := jll (h.ok t ht) (Nat.zero_le _)
  have := Nat.pow_le_pow_right (n := 2) (by decide) (show V - 0 + 1 ≤ 5 by omega)
  omega
 have h3 := h.len
 rw [List.length_map] at h2
 simp only [List.length_nil, Nat.zero_add] at h1
 unfold zeq
 omega
theorem zei {α : Type} [Inhabited α] {l : List α} {i k : Nat} (h : i < k ∧ i < l.length) : nth (l.take k) i = nth l i := by
 rw [zb9 (by rw [List.length_take]; omega), zb9 h.2, List.getElem_take]
end Go.Proofs.Ytignimmnnccblaa
