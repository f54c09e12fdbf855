/- Plain laws of evaluated nets. -/
import Derived.Test.YtfpcailbobjfnaaNf
set_option linter.unusedVariables false
set_option linter.unusedSimpArgs false
namespace Go.Proofs.Ytfpcailbobjfnaa
open Go Go.RowKit
theorem evalS_app (mems : List (List Int)) (v : List Bool) (a b : List Gate) : evalS mems v (a ++ b) = evalS mems (evalS mems v a) b := List.foldl_append ..
theorem evalS_pre (mems : List (List Int)) : ∀ (l : List Gate) (v : List Bool), ∃ r, evalS mems v l = v ++ r
  | [], v => ⟨[], by simp [evalS]⟩
  | g :: l, v => by
    obtain ⟨r, hr⟩ := evalS_pre mems l (v ++ [opN mems v g])
    exact ⟨opN mems v g :: r, by rw [show evalS mems v (g :: l) = evalS mems (v ++ [opN mems v g]) l from rfl, hr]; simp⟩
theorem evalN_pre (g : List Gate) (inp : List Bool) (mems : List (List Int)) : ∃ r, evalN g inp mems = (false :: true :: inp) ++ r := evalS_pre mems g _
theorem evalN_0 (g : List Gate) (inp : List Bool) (mems : List (List Int)) : nth (evalN g inp mems) 0 = false := by
  obtain ⟨r, hr⟩ := evalN_pre g inp mems; rw [hr]; rfl
theorem evalN_1 (g : List Gate) (inp : List Bool) (mems : List (List Int)) : nth (evalN g inp mems) 1 = true := by
  obtain ⟨r, hr⟩ := evalN_pre g inp mems; rw [hr]; rfl
theorem evalN_in (g : List Gate) (inp : List Bool) (mems : List (List Int)) : ((evalN g inp mems).drop 2).take inp.length = inp := by
  obtain ⟨r, hr⟩ := evalN_pre g inp mems; rw [hr]; simp
theorem nth_app {v r : List Bool} {x : Int} {m : Nat} (h0 : 0 ≤ x) (h1 : x < m) (hm : m ≤ v.length) : nth (v ++ r) x.toNat = nth v x.toNat := nth_append_left (by omega)
theorem opN_app {mems : List (List Int)} {v r : List Bool} {g : Gate} {m : Nat} (hg : GateOk m g) (hm : m ≤ v.length) : opN mems (v ++ r) g = opN mems v g := by
  unfold opN
  rw [nth_app hg.a0 hg.a1 hm, nth_app hg.b0 hg.b1 hm, nth_app hg.c0 hg.c1 hm]
theorem evalN_gate {g : List Gate} {inp : List Bool} {mems : List (List Int)} (hg : GatesOk (2 + inp.length) g) {k : Nat} (hk : k < g.length) : nth (evalN g inp mems) (2 + inp.length + k) = opN mems (evalN g inp mems) (nth g k) := by
  have hs := evalS_step mems (false :: true :: inp) hk
  have hl : (evalS mems (false :: true :: inp) (g.take k)).length = 2 + inp.length + k := by rw [evalS_len]; simp; omega
  obtain ⟨r, hr⟩ := evalS_pre mems (g.drop (k + 1)) (evalS mems (false :: true :: inp) (g.take (k + 1)))
  have he : evalN g inp mems = evalS mems (false :: true :: inp) (g.take k) ++ ([opN mems (evalS mems (false :: true :: inp) (g.take k)) (nth g k)] ++ r) := by
    unfold evalN
    rw [← List.append_assoc, ← hs, ← hr, ← evalS_app, List.take_append_drop]
  rw [he, opN_app (hg k hk) (by omega), nth_append_right (by omega), hl]
  simp [nth]
theorem and255 (a : Int) : 0 ≤ bitV .and .i64 a 255 := by
  have h : (BitVec.ofInt 64 a &&& BitVec.ofInt 64 255).toNat ≤ 255 := by
    rw [BitVec.toNat_and]
    exact Nat.le_trans Nat.and_le_right (by decide)
  show 0 ≤ IntKind.i64.wrap ((BitVec.ofInt 64 a &&& BitVec.ofInt 64 255).toNat : Int)
  rw [w_i64 (by omega) (by omega)]
  omega
/-! ### What an input reaches -/
theorem reachS_app (v : List Bool) (a b : List Gate) : reachS v (a ++ b) = reachS (reachS v a) b := List.foldl_append ..
theorem reachS_pre : ∀ (l : List Gate) (v : List Bool), ∃ r, reachS v l = v ++ r
  | [], v => ⟨[], by simp [reachS]⟩
  | g :: l, v => by
    obtain ⟨r, hr⟩ := reachS_pre l (v ++ [reachO v g])
    exact ⟨reachO v g :: r, by rw [show reachS v (g :: l) = reachS (v ++ [reachO v g]) l from rfl, hr]; simp⟩
theorem opN_same {mems : List (List Int)} {v w on : List Bool} {g : Gate} {m : Nat} (hg : GateOk m g) (hm : on.length = m) (hs : ∀ j, j < m → nth on j = false → nth v j = nth w j) (hr : reachO on g = false) : opN mems v g = opN mems w g := by
  unfold reachO at hr
  simp only [Bool.or_eq_false_iff, Bool.and_eq_false_iff, decide_eq_false_iff_not] at hr
  obtain ⟨ra, rb, rc⟩ := hr
  have ha := hs g.a.toNat (by have := hg.a0; have := hg.a1; omega) ra
  have hb : 1 < arityN g.op → nth v g.b.toNat = nth w g.b.toNat := fun h => hs _ (by have := hg.b0; have := hg.b1; omega) (rb.resolve_left (by omega))
  have hc : 2 < arityN g.op → nth v g.c.toNat = nth w g.c.toNat := fun h => hs _ (by have := hg.c0; have := hg.c1; omega) (rc.resolve_left (by omega))
  have h1 := hg.o1
  have h2 := hg.o2
  unfold opN
  unfold arityN at hb hc
  rcases (show g.op = 1 ∨ g.op = 2 ∨ g.op = 3 ∨ g.op = 4 ∨ g.op = 5 ∨ g.op = 6 ∨ g.op = 7 by omega) with h | h | h | h | h | h | h <;> simp only [h] at hb hc ⊢ <;> simp at hb hc ⊢ <;> simp [ha, hb, hc]
theorem nth_snoc_cases {v : List Bool} {x : Bool} {j : Nat} (h : j < (v ++ [x]).length) : (j < v.length ∧ nth (v ++ [x]) j = nth v j) ∨ (j = v.length ∧ nth (v ++ [x]) j = x) := by
  by_cases hj : j < v.length
  · exact .inl ⟨hj, nth_append_left hj⟩
  · have : j = v.length := by simp at h; omega
    subst this
    exact .inr ⟨rfl, nth_append_end⟩
theorem reach_same {mems : List (List Int)} : ∀ (l : List Gate) (v w on : List Bool), v.length = on.length → w.length = on.length → (∀ j, j < on.length → nth on j = false → nth v j = nth w j) → GatesOk on.length l →
    ∀ j, j < (reachS on l).length → nth (reachS on l) j = false → nth (evalS mems v l) j = nth (evalS mems w l) j
  | [], _, _, _, _, _, hs, _ => hs
  | g :: l, v, w, on, hv, hw, hs, hg => by
    have g0 := hg 0 (by simp)
    refine reach_same l (v ++ [opN mems v g]) (w ++ [opN mems w g]) (on ++ [reachO on g]) (by simp [hv]) (by simp [hw]) (fun j hj hn => ?_) (fun k hk => by
      have := hg (k + 1) (by simpa using hk)
      rw [show (on ++ [reachO on g]).length + k = on.length + (k + 1) by simp; omega]
      have e : nth (g :: l) (k + 1) = nth l k := by simp [nth]
      rw [e] at this; exact this)
    rcases nth_snoc_cases hj with ⟨h1, h2⟩ | ⟨h1, h2⟩
    · rw [nth_append_left (by omega), nth_append_left (by omega)]
      exact hs j h1 (by rw [← h2]; exact hn)
    · rw [h2] at hn
      have := opN_same (mems := mems) (v := v) (w := w) (by simpa [nth] using g0) rfl hs hn
      rw [h1]
      rw [← hv, nth_append_end, hv, ← hw, nth_append_end]
      exact this
theorem reach0_same {inp : List Bool} {k : Nat} (hk : k < inp.length) (j : Nat) (hj : j < 2 + inp.length) (h : nth (reach0 inp.length k) j = false) : nth (false :: true :: inp) j = nth (false :: true :: invN inp k) j := by
  rcases (show j = 0 ∨ j = 1 ∨ ∃ i, j = i + 2 from by rcases j with _ | _ | j; exact .inl rfl; exact .inr (.inl rfl); exact .inr (.inr ⟨j, rfl⟩)) with rfl | rfl | ⟨i, rfl⟩
  · rfl
  · rfl
  · have e : ∀ l : List Bool, nth (false :: true :: l) (i + 2) = nth l i := fun l => by simp [nth]
    rw [e, e]
    by_cases hik : k = i
    · subst hik
      unfold reach0 at h
      rw [show k + 2 = 2 + k by omega, nth_set_eq (by simp; omega)] at h
      cases h
    · exact (nth_set_ne hik).symm
/-- A node whose value an input changes is reached from it. -/
theorem reached_of {n : Net} {inp : List Bool} {mems : List (List Int)} {k : Nat} (hi : n.ins.length = inp.length) (hk : k < inp.length) (hg : GatesOk (2 + inp.length) n.gates) {j : Nat} (hj : j < 2 + inp.length + n.gates.length) (h : nth (evalN n.gates inp mems) j ≠ nth (evalN n.gates (invN inp k) mems) j) : nth (reachN n k) j = true := by
  rcases tf (nth (reachN n k) j) with h1 | h1
  · exact h1
  · refine absurd ?_ h
    unfold reachN at h1
    rw [hi] at h1
    exact reach_same n.gates (false :: true :: inp) (false :: true :: invN inp k) (reach0 inp.length k) (by simp [reach0_len]; omega) (by simp [reach0_len, invN_len]; omega) (fun j hj hn => reach0_same hk j (by rwa [reach0_len] at hj) hn) (by rw [reach0_len]; exact hg) j (by rw [reachS_len, reach0_len]; exact hj) h1
/-! ### Inverting twice; the sensitive outputs in order -/
theorem invN_invN {l : List Bool} {k : Nat} (h : k < l.length) : invN (invN l k) k = l := by
  unfold invN
  rw [nth_set_eq h, List.set_set, Bool.not_not]
  exact ext_nth (by simp) fun j hj => by
    by_cases e : k = j
    · subst e; rw [nth_set_eq h]
    · rw [nth_set_ne e]
theorem sensN_inv {n : Net} {inp : List Bool} {mems : List (List Int)} {k m : Nat} (h : k < inp.length) : sensN n (invN inp k) mems k m = sensN n inp mems k m := by
  unfold sensN
  rw [invN_invN h]
  congr 1
  refine List.filter_congr fun i _ => ?_
  cases nth (outN n inp mems) i <;> cases nth (outN n (invN inp k) mems) i <;> rfl
theorem sensN_ge (n : Net) (inp : List Bool) (mems : List (List Int)) (k i : Nat) : ∀ m, i ≤ m → ∃ r, sensN n inp mems k m = sensN n inp mems k i ++ r ∧ ∀ y ∈ r, (i : Int) ≤ y
  | 0, h => by
    have : i = 0 := by omega
    subst this; exact ⟨[], by simp, fun y hy => by cases hy⟩
  | m + 1, h => by
    by_cases e : i = m + 1
    · subst e; exact ⟨[], by simp, fun y hy => by cases hy⟩
    · obtain ⟨r, h1, h2⟩ := sensN_ge n inp mems k i m (by omega)
      rw [sensN_step, h1]
      refine ⟨r ++ _, by rw [List.append_assoc], fun y hy => ?_⟩
      rcases List.mem_append.1 hy with hy | hy
      · exact h2 y hy
      · split at hy
        · simp at hy; omega
        · cases hy
/-- Whether the next number of the list is i. -/
def isN (l : List Int) (x i : Nat) : Bool := decide (x < l.length) && (nth l x == (i : Int))
theorem isN_spec {n : Net} {inp : List Bool} {mems : List (List Int)} {k i m : Nat} (hi : i < m) : isN (sensN n inp mems k m) (sensN n inp mems k i).length i = (nth (outN n inp mems) i != nth (outN n (invN inp k) mems) i) := by
  obtain ⟨r, h1, h2⟩ := sensN_ge n inp mems k (i + 1) m hi
  rw [sensN_step] at h1
  unfold isN
  rw [h1]
  by_cases h : (nth (outN n inp mems) i != nth (outN n (invN inp k) mems) i) = true
  · rw [if_pos h, h, List.append_assoc, nth_append_right (Nat.le_refl _)]; simp [nth]
  · rw [if_neg h]
    have h' : (nth (outN n inp mems) i != nth (outN n (invN inp k) mems) i) = false := by simpa using h
    rw [h']
    simp only [List.append_nil]
    cases r with
    | nil => simp
    | cons y r =>
      have := h2 y (List.mem_cons_self ..)
      rw [nth_append_right (Nat.le_refl _), Nat.sub_self]
      have e : nth (y :: r) 0 = y := rfl
      rw [e]
      have : (y == (i : Int)) = false := by simp; omega
      rw [this, Bool.and_false]
end Go.Proofs.Ytfpcailbobjfnaa
