/- The law's tables: the values of all nodes for all assignments. -/
import Derived.Test.YtignimmnnccblaaGa
set_option linter.unusedVariables false
set_option linter.unusedSimpArgs false
namespace Go.Proofs.Ytignimmnnccblaa
open Go Go.RowKit
end Go.Proofs.Ytignimmnnccblaa

/- Of no program: the values of a tree for all assignments, in their order. -/
set_option linter.unusedVariables false
set_option linter.unusedSimpArgs false
namespace Go.Proofs.Ytignimmnnccblaa
open Go Go.RowKit
def asn (n i : Nat) : Nat → Bool := fun v => decide (v < n) && i.testBit (n - 1 - v)
theorem jlr {V j : Nat} (hj : j < 2 ^ 62) (hV : V ≤ 60) : atB (zo4 V (j : Int)) = asn V j := by
 funext v
 unfold atB asn
 have hl : (zo4 V (j : Int)).length = V := by simp [zo4]
 rw [hl]
 by_cases h : v < V
 ·rw [decide_eq_true h, Bool.true_and, Bool.true_and]
  unfold zo4
  rw [zcj h, show ((V : Int) - 1 - v) = ((V - 1 - v : Nat) : Int) by omega, znq hj (by omega)]
 ·rw [decide_eq_false h]; rfl
theorem jrq {n v j : Nat} (hj : j < 2 ^ (n - 1 - v)) : asn n j v = false := by
 unfold asn
 rw [Nat.testBit_lt_two_pow hj, Bool.and_false]
theorem jrr {n v j : Nat} (hv : v < n) (hj : j < 2 ^ (n - 1 - v)) : asn n (2 ^ (n - 1 - v) + j) v = true := by
 unfold asn
 rw [Nat.testBit_two_pow_add_eq, Nat.testBit_lt_two_pow hj, decide_eq_true hv]; rfl
theorem jrs {n v j i : Nat} (hv : v < i) (hi : i < n) : asn n (2 ^ (n - 1 - v) + j) i = asn n j i := by
 unfold asn
 rw [Nat.testBit_two_pow_add_gt (by omega)]
theorem jtg {n v j : Nat} {t : T} (h : t.Ok n (v + 1)) : t.eval (asn n (2 ^ (n - 1 - v) + j)) = t.eval (asn n j) :=
 h.eval_eq fun i h1 h2 => jrs h1 h2
theorem jls {n v j : Nat} {l h : T} (hj : j < 2 ^ (n - 1 - v)) : (T.node v l h).eval (asn n j) = l.eval (asn n j) := by
 rw [T.eval, jrq hj]; rfl
theorem jrt {n k v j : Nat} {l h : T} (hok : (T.node v l h).Ok n k) (hj : j < 2 ^ (n - 1 - v)) : (T.node v l h).eval (asn n (2 ^ (n - 1 - v) + j)) = h.eval (asn n j) := by
 rw [T.eval, jrr hok.2.1 hj, if_pos rfl, jtg hok.2.2.2.2]
theorem jeh (a : Nat → Bool) : ∀ n, ∃ i, i < 2 ^ n ∧ ∀ v, v < n → asn n i v = a v
 | 0 => ⟨0, by simp, fun v h => by omega⟩
 | n + 1 => by
  obtain ⟨i, hi, h⟩ := jeh a n
  refine ⟨2 * i + (a n).toNat, ?_, fun v hv => ?_⟩
  ·rw [Nat.pow_succ]; cases a n <;> simp <;> omega
  ·unfold asn
   rw [decide_eq_true hv, Bool.true_and]
   by_cases he : v = n
   ·subst he
    rw [show v + 1 - 1 - v = 0 by omega, Nat.testBit_zero]
    cases a v <;> simp <;> omega
   ·have := h v (by omega)
    unfold asn at this
    rw [decide_eq_true (by omega), Bool.true_and] at this
    rw [show n + 1 - 1 - v = (n - 1 - v) + 1 by omega, Nat.testBit_succ, ← this]
    congr 1
    cases a n <;> simp <;> omega
theorem jj2 {n k j : Nat} {t s : T} (ht : t.Ok n k) (hs : s.Ok n j) (h : ∀ i, i < 2 ^ n → t.eval (asn n i) = s.eval (asn n i)) : t = s :=
 ht.eq hs fun a => by
  obtain ⟨i, hi, he⟩ := jeh a n
  rw [ht.eval_eq (b := asn n i) fun v _ hv => (he v hv).symm, hs.eval_eq (b := asn n i) fun v _ hv => (he v hv).symm]
  exact h i hi
def zn4 (n : Nat) : T → Nat
 | .leaf _ => 0
 | .node v l h => if l = .leaf false then 2 ^ (n - 1 - v) + zn4 n h else zn4 n l
theorem ziy {n : Nat} : ∀ {t : T} {k : Nat}, t.Ok n k → k ≤ n → zn4 n t < 2 ^ (n - k)
 | .leaf b, k, _, _ => Nat.two_pow_pos _
 | .node v l h, k, hok, hk => by
  have h1 := hok.1
  have h2 := hok.2.1
  have hl := ziy hok.2.2.2.1 (by omega)
  have hh := ziy hok.2.2.2.2 (by omega)
  have e : n - 1 - v = n - (v + 1) := by omega
  have e2 : 2 ^ (n - v) = 2 ^ (n - (v + 1)) + 2 ^ (n - (v + 1)) := by rw [show n - v = (n - (v + 1)) + 1 by omega, Nat.pow_succ]; omega
  have e3 : 2 ^ (n - v) ≤ 2 ^ (n - k) := Nat.pow_le_pow_right (by decide) (by omega)
  unfold zn4
  rw [e]
  split <;> omega
theorem zk3 {n : Nat} : ∀ {t : T} {k : Nat}, t.Ok n k → k ≤ n → t ≠ .leaf false → t.eval (asn n (zn4 n t)) = true
 | .leaf b, k, _, _, h => by cases b; exact absurd rfl h; rfl
 | .node v l h, k, hok, hk, _ => by
  have h2 := hok.2.1
  have e : n - 1 - v = n - (v + 1) := by omega
  unfold zn4
  split
  ·rename_i hl
   rw [jrt hok (by rw [e]; exact ziy hok.2.2.2.2 (by omega))]
   exact zk3 hok.2.2.2.2 (by omega) fun hh => hok.2.2.1 (by rw [hl, hh])
  ·rename_i hl
   rw [jls (by rw [e]; exact ziy hok.2.2.2.1 (by omega))]
   exact zk3 hok.2.2.2.1 (by omega) hl
theorem zmr {n : Nat} : ∀ {t : T} {k : Nat}, t.Ok n k → k ≤ n → ∀ i, i < zn4 n t → t.eval (asn n i) = false
 | .leaf b, k, _, _, i, h => by simp [zn4] at h
 | .node v l h, k, hok, hk, i, hi => by
  have h2 := hok.2.1
  have e : n - 1 - v = n - (v + 1) := by omega
  have hlt := ziy hok.2.2.2.1 (by omega)
  have hht := ziy hok.2.2.2.2 (by omega)
  unfold zn4 at hi
  split at hi
  ·rename_i hl
   by_cases hc : i < 2 ^ (n - 1 - v)
   ·rw [jls hc, hl]; rfl
   ·obtain ⟨j, rfl⟩ : ∃ j, i = 2 ^ (n - 1 - v) + j := ⟨i - 2 ^ (n - 1 - v), by omega⟩
    rw [jrt hok (by rw [e] at hi ⊢; omega)]
    exact zmr hok.2.2.2.2 (by omega) j (by omega)
  ·rw [jls (by rw [e]; omega)]
   exact zmr hok.2.2.2.1 (by omega) i hi
theorem zms (us : List T) : ∀ (t : T) (r : List Bool), (anyT us t r).length = r.length
 | .leaf _, r => rfl
 | .node v l h, r => by
  unfold anyT anyT.setAt
  split
  ·rw [zms us h, List.length_set]
  ·rw [zms us l, List.length_set]
theorem zqy {n V : Nat} {us : List T} (hr : RowOk V us) : ∀ {t : T} {k : Nat}, t.Ok n k → t ∈ zbq us → ∀ (r : List Bool), r.length = n → (∀ j, k ≤ j → j < n → nth r j = false) → ∀ j, j < n → nth (anyT us t r) j = (nth r j || (zn4 n t).testBit (n - 1 - j))
 | .leaf b, k, _, _, r, _, _, j, _ => by simp [anyT, zn4]
 | .node v l h, k, hok, hin, r, hrl, hr0, j, hj => by
  have h1 := hok.1
  have h2 := hok.2.1
  have hc := hr.chf hin
  have e : n - 1 - v = n - (v + 1) := by omega
  have hht := ziy hok.2.2.2.2 (by omega)
  have hset : ∀ b j, j < n → nth (r.set v b) j = if j = v then b else nth r j := fun b j hj => by
   by_cases he : j = v
   ·subst he; rw [if_pos rfl, zg3 (by omega)]
   ·rw [if_neg he, zfz (Ne.symm he)]
  have hz : ∀ b j, v + 1 ≤ j → j < n → nth (r.set v b) j = false := fun b j h3 h4 => by
   rw [hset b j h4, if_neg (by omega)]; exact hr0 j (by omega) h4
  unfold anyT anyT.setAt zn4
  by_cases hl : l = .leaf false
  ·rw [if_pos (by rw [hl]; exact zjk us), if_pos hl, zqy hr hok.2.2.2.2 hc.2 _ (by simpa using hrl) (hz true) j hj, hset true j hj]
   by_cases he : j = v
   ·subst he
    rw [if_pos rfl, Nat.testBit_two_pow_add_eq, Nat.testBit_lt_two_pow (by rw [e]; exact hht)]; simp
   ·rw [if_neg he]
    congr 1
    by_cases hjv : v < j
    ·rw [Nat.testBit_two_pow_add_gt (by omega)]
    ·have e3 : 2 ^ (n - 1 - v + 1) ≤ 2 ^ (n - 1 - j) := Nat.pow_le_pow_right (by decide) (by omega)
     rw [Nat.pow_succ] at e3
     rw [e] at e3 ⊢
     rw [Nat.testBit_lt_two_pow (by omega), Nat.testBit_lt_two_pow (by omega)]
  ·have hne : ¬ num us l = 0 := fun hn => hl (zdl hc.1 (zhy us) (by rw [hn, zjk]))
   rw [if_neg hne, if_neg hl, zqy hr hok.2.2.2.1 hc.1 _ (by simpa using hrl) (hz false) j hj, hset false j hj]
   by_cases he : j = v
   ·subst he; rw [if_pos rfl, hr0 j h1 hj]
   ·rw [if_neg he]
theorem jlt {n V : Nat} {us : List T} (hr : RowOk V us) {t : T} (hok : t.Ok n 0) (hin : t ∈ zbq us) (hn : n ≤ 60) : anyT us t (List.replicate n false) = zo4 n (zn4 n t : Nat) := by
 have hP := ziy hok (Nat.zero_le _)
 have hP2 : 2 ^ (n - 0) ≤ 2 ^ 60 := Nat.pow_le_pow_right (by decide) (by omega)
 have hP3 : (2 : Nat) ^ 60 ≤ 2 ^ 62 := by decide
 have hrep : ∀ j, nth (List.replicate n false) j = false := fun j => by unfold nth; simp [List.getD_eq_getElem?_getD, List.getElem?_replicate]; split <;> rfl
 have hl : (zo4 n (zn4 n t : Nat)).length = n := by simp [zo4]
 refine zpr (by rw [zms, hl]; simp) fun j hj => ?_
 rw [zms, List.length_replicate] at hj
 rw [zqy hr hok hin _ (by simp) (fun j _ _ => hrep j) j hj, hrep, Bool.false_or]
 unfold zo4
 rw [zcj hj, show ((n : Int) - 1 - j) = ((n - 1 - j : Nat) : Int) by omega, znq (by omega) (by omega)]
end Go.Proofs.Ytignimmnnccblaa

/- The theorem of canonicity. -/
set_option linter.unusedVariables false
set_option linter.unusedSimpArgs false
namespace Go.Proofs.Ytignimmnnccblaa
open Go Go.RowKit
end Go.Proofs.Ytignimmnnccblaa

/- The theorem of witnesses. -/
set_option linter.unusedVariables false
set_option linter.unusedSimpArgs false
namespace Go.Proofs.Ytignimmnnccblaa
open Go Go.RowKit
theorem jru {n : Net} {k : Nat} (h : k < 2 + n.ins.length + n.gates.length) : [(k : Int)].any (znp (2 + n.ins.length + n.gates.length)) = false := by
 simp [znp]; omega
structure One (V : Nat) (us : List T) (t : T) : Prop where
 row : RowOk V us
 len : us.length ≤ 3000
 ok : t.Ok V 0
 hin : t ∈ zbq us
theorem One.tree {V : Nat} {us : List T} {t : T} (h : One V us t) : zct us (num us t : Nat) = t := zp3 h.hin
theorem One.ask {V W : Nat} {us : List T} {t : T} (h : One V us t) (hV : V ≤ W) (hW : W ≤ 60) : zl7 us (num us t : Nat) (W : Int) = true := by
 have hlt := zee h.hin
 unfold zl7 zjl
 rw [h.tree, decide_eq_true (by omega), decide_eq_true (by omega), decide_eq_true (by omega), decide_eq_true (by omega)]
 simp only [Bool.true_and, List.all_eq_true, decide_eq_true_eq]
 intro x hx
 obtain ⟨v, hv, rfl⟩ := (zt8 (V := V) (by omega) h.ok).1 hx
 have := (jgo h.ok v hv).2
 omega
theorem One.none {V : Nat} {us : List T} {t : T} (h : One V us t) (hV : V ≤ 60) (hf : ∀ j, j < 2 ^ V → t.eval (asn V j) = false) : jgp us (num us t : Nat) V = [] ∧ jgq us (num us t : Nat) V = 4 := by
 have e : t = .leaf false := jj2 (n := V) h.ok (s := .leaf false) (j := 0) trivial hf
 have h0 : num us t = 0 := by rw [e]; exact zjk us
 unfold jgp jgq
 rw [h.ask (Nat.le_refl _) hV, h0]
 exact ⟨rfl, rfl⟩
theorem One.some {V : Nat} {us : List T} {t : T} (h : One V us t) (hV : V ≤ 60) {i : Nat} (hi : i < 2 ^ V) (hf : ∀ j, j < i → t.eval (asn V j) = false) (ht : t.eval (asn V i) = true) : jgp us (num us t : Nat) V = zo4 V i ∧ jgq us (num us t : Nat) V = 0 := by
 have hne : t ≠ .leaf false := fun e => by rw [e] at ht; cases ht
 have h0 : num us t ≠ 0 := fun e => hne (zdl h.hin (zhy us) (by rw [e, zjk]))
 have hp : zn4 V t = i := by
  have h1 := zk3 h.ok (Nat.zero_le _) hne
  have h2 := zmr h.ok (Nat.zero_le _)
  rcases Nat.lt_trichotomy (zn4 V t) i with hc | hc | hc
  ·rw [hf _ hc] at h1; cases h1
  ·exact hc
  ·rw [h2 i hc] at ht; cases ht
 unfold jgp jgq
 rw [h.ask (Nat.le_refl _) hV, h.tree, decide_eq_true (by omega)]
 refine ⟨?_, ?_⟩
 ·show anyT us t (List.replicate (V : Int).toNat false) = _
  rw [show (V : Int).toNat = V by omega, jlt h.row h.ok h.hin hV, hp]
 ·rw [if_pos rfl, if_neg (by omega)]
end Go.Proofs.Ytignimmnnccblaa
