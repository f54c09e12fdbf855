/- The law's tables: the values of all nodes for all assignments. -/
import Derived.Test.YtgfnpfchdlcoeaaQr
import Derived.Test.YtgfnpfchdlcoeaaQ
import Derived.Test.YtgfnpfchdlcoeaaGa
set_option linter.unusedVariables false
set_option linter.unusedSimpArgs false
set_option maxRecDepth 100000
set_option maxHeartbeats 4000000
namespace Go.Proofs.Ytgfnpfchdlcoeaa
open Go Go.RowKit
def evA (n : Net) (sh : Sh) (j : Nat) : List Bool := jce n.gates (zq4 n.ins.length (zuh (zcz n.ins.length sh) j)) (zi3 n.ins.length sh (zuh (zcz n.ins.length sh) j))
theorem jmb (n : Net) (sh : Sh) (j : Nat) : (evA n sh j).length = 2 + n.ins.length + n.gates.length := jfq _ _ _ _
def zwg (n : Net) (sh : Sh) (k i : Nat) : List Bool := (List.range i).map fun j => nth (evA n sh j) k
theorem zzy (n : Net) (sh : Sh) (k i : Nat) : (zwg n sh k i).length = i := by simp [zwg]
theorem jpx (n : Net) (sh : Sh) (k i : Nat) : zwg n sh k (i + 1) = zwg n sh k i ++ [nth (evA n sh i) k] := zqb
def zi4 (n : Net) (sh : Sh) (c i : Nat) : List (List D) := (List.range (2 + n.ins.length + n.gates.length)).map fun k => (zwg n sh k (if k < c then i + 1 else i)).map oD
theorem ziu (n : Net) (sh : Sh) (c i : Nat) : (zi4 n sh c i).length = 2 + n.ins.length + n.gates.length := by simp [zi4]
theorem jmc (n : Net) (sh : Sh) : zi4 n sh 0 0 = List.replicate (2 + n.ins.length + n.gates.length) [] := by
 refine List.ext_getElem (by simp [zi4]) fun i h1 h2 => ?_
 simp [zi4, zwg]
theorem jim (n : Net) (sh : Sh) (i : Nat) : zi4 n sh (2 + n.ins.length + n.gates.length) i = zi4 n sh 0 (i + 1) := by
 refine List.map_congr_left fun k hk => ?_
 rw [List.mem_range] at hk
 rw [if_pos hk, if_neg (by omega)]
theorem jmd {n : Net} {sh : Sh} {c i k : Nat} (h : k < 2 + n.ins.length + n.gates.length) : nth (zi4 n sh c i) k = (zwg n sh k (if k < c then i + 1 else i)).map oD := zdi h
theorem jpy {n : Net} {sh : Sh} {c i : Nat} (h : c < 2 + n.ins.length + n.gates.length) : (zi4 n sh c i).set c ((zwg n sh c i).map oD ++ [oD (nth (evA n sh i) c)]) = zi4 n sh (c + 1) i := by
 refine List.ext_getElem (by simp [zi4]) fun k h1 h2 => ?_
 have hk : k < 2 + n.ins.length + n.gates.length := by rw [ziu] at h2; exact h2
 rw [List.getElem_set]
 split
 ·rename_i e
  subst e
  simp [zi4, jpx, oD]
 ·rename_i e
  simp only [zi4, List.getElem_map, List.getElem_range]
  congr 2
  split <;> split <;> first | rfl | omega
def zlt (l : List (List Bool)) : D := .fs (l.map zas) l.length
def zoi (n : Net) (sh : Sh) : List (List Bool) := (List.range (2 + n.ins.length + n.gates.length)).map fun k => zwg n sh k (2 ^ zcz n.ins.length sh)
theorem jme (n : Net) (sh : Sh) (i : Nat) (h : i = 2 ^ zcz n.ins.length sh) : fss (zi4 n sh 0 i) = (zoi n sh).map zas := by
 unfold fss zi4 zoi
 rw [List.map_map, List.map_map]
 refine List.map_congr_left fun k hk => ?_
 simp [h, zas]
theorem jpz {l r : zal} {m : Nat} (h : l.length = m) : (l ++ r)[m]? = r[0]? := by subst h; rw [List.getElem?_append_right (Nat.le_refl _), Nat.sub_self]
theorem jmf {l r : zal} {m : Nat} (h : l.length = m) : (l ++ r)[m + 1]? = r[1]? := by subst h; rw [List.getElem?_append_right (by omega)]; congr 1; omega
theorem jmg {l r : zal} {m : Nat} {x : AObj} (h : l.length = m) : (l ++ r).set m x = l ++ r.set 0 x := by subst h; rw [List.set_append_right _ _ (Nat.le_refl _), Nat.sub_self]
theorem jin {l r : zal} {m : Nat} {x : AObj} (h : l.length = m) : (l ++ r).set (m + 1) x = l ++ r.set 1 x := by subst h; rw [List.set_append_right _ _ (by omega), show l.length + 1 - l.length = 1 by omega]
end Go.Proofs.Ytgfnpfchdlcoeaa

/- Of no program: the values of a tree for all assignments, in their order. -/
set_option linter.unusedVariables false
set_option linter.unusedSimpArgs false
namespace Go.Proofs.Ytgfnpfchdlcoeaa
open Go Go.RowKit
def asn (n i : Nat) : Nat → Bool := fun v => decide (v < n) && i.testBit (n - 1 - v)
theorem jmh {V j : Nat} (hj : j < 2 ^ 62) (hV : V ≤ 60) : atB (zuh V (j : Int)) = asn V j := by
 funext v
 unfold atB asn
 have hl : (zuh V (j : Int)).length = V := by simp [zuh]
 rw [hl]
 by_cases h : v < V
 ·rw [decide_eq_true h, Bool.true_and, Bool.true_and]
  unfold zuh
  rw [zdi h, show ((V : Int) - 1 - v) = ((V - 1 - v : Nat) : Int) by omega, zwf hj (by omega)]
 ·rw [decide_eq_false h]; rfl
theorem jp0 {n v j : Nat} (hj : j < 2 ^ (n - 1 - v)) : asn n j v = false := by
 unfold asn
 rw [Nat.testBit_lt_two_pow hj, Bool.and_false]
theorem jp1 {n v j : Nat} (hv : v < n) (hj : j < 2 ^ (n - 1 - v)) : asn n (2 ^ (n - 1 - v) + j) v = true := by
 unfold asn
 rw [Nat.testBit_two_pow_add_eq, Nat.testBit_lt_two_pow hj, decide_eq_true hv]; rfl
theorem jp2 {n v j i : Nat} (hv : v < i) (hi : i < n) : asn n (2 ^ (n - 1 - v) + j) i = asn n j i := by
 unfold asn
 rw [Nat.testBit_two_pow_add_gt (by omega)]
theorem jp3 {n v j : Nat} {t : T} (h : t.Ok n (v + 1)) : t.eval (asn n (2 ^ (n - 1 - v) + j)) = t.eval (asn n j) :=
 h.eval_eq fun i h1 h2 => jp2 h1 h2
theorem jst {n v j : Nat} {l h : T} (hj : j < 2 ^ (n - 1 - v)) : (T.node v l h).eval (asn n j) = l.eval (asn n j) := by
 rw [T.eval, jp0 hj]; rfl
theorem jsu {n k v j : Nat} {l h : T} (hok : (T.node v l h).Ok n k) (hj : j < 2 ^ (n - 1 - v)) : (T.node v l h).eval (asn n (2 ^ (n - 1 - v) + j)) = h.eval (asn n j) := by
 rw [T.eval, jp1 hok.2.1 hj, if_pos rfl, jp3 hok.2.2.2.2]
theorem jf1 (a : Nat → Bool) : ∀ n, ∃ i, i < 2 ^ n ∧ ∀ v, v < n → asn n i v = a v
 | 0 => ⟨0, by simp, fun v h => by omega⟩
 | n + 1 => by
  obtain ⟨i, hi, h⟩ := jf1 a n
  refine ⟨2 * i + (a n).toNat, ?_, fun v hv => ?_⟩
  ·rw [Nat.pow_succ]; cases a n <;> simp <;> omega
  ·unfold asn
   rw [decide_eq_true hv, Bool.true_and]
   by_cases he : v = n
   ·subst he
    rw [show v + 1 - 1 - v = 0 by omega, Nat.testBit_zero]
    cases a v <;> simp <;> omega
   ·have := h v (by omega)
    unfold asn at this
    rw [decide_eq_true (by omega), Bool.true_and] at this
    rw [show n + 1 - 1 - v = (n - 1 - v) + 1 by omega, Nat.testBit_succ, ← this]
    congr 1
    cases a n <;> simp <;> omega
theorem jp4 {n k j : Nat} {t s : T} (ht : t.Ok n k) (hs : s.Ok n j) (h : ∀ i, i < 2 ^ n → t.eval (asn n i) = s.eval (asn n i)) : t = s :=
 ht.eq hs fun a => by
  obtain ⟨i, hi, he⟩ := jf1 a n
  rw [ht.eval_eq (b := asn n i) fun v _ hv => (he v hv).symm, hs.eval_eq (b := asn n i) fun v _ hv => (he v hv).symm]
  exact h i hi
theorem zun (us : List T) : ∀ (t : T) (r : List Bool), (anyT us t r).length = r.length
 | .leaf _, r => rfl
 | .node v l h, r => by
  unfold anyT anyT.setAt
  split
  ·rw [zun us h, List.length_set]
  ·rw [zun us l, List.length_set]
end Go.Proofs.Ytgfnpfchdlcoeaa

/- The theorem of canonicity. -/
set_option linter.unusedVariables false
set_option linter.unusedSimpArgs false
set_option maxRecDepth 100000
set_option maxHeartbeats 4000000
namespace Go.Proofs.Ytgfnpfchdlcoeaa
open Go Go.RowKit
theorem zo1 (n : Net) (sh : Sh) : (zoi n sh).length = 2 + n.ins.length + n.gates.length := by simp [zoi]
theorem jmj {n : Net} {sh : Sh} {k : Nat} (h : k < 2 + n.ins.length + n.gates.length) : nth (zoi n sh) k = zwg n sh k (2 ^ zcz n.ins.length sh) := zdi h
theorem jp8 {n : Net} {sh : Sh} (hsh : ShOk sh) {fs : List T} (hF : FsP (zcz n.ins.length sh) n.ins.length sh n.gates n.gates.length fs) (hg : GatesOk (2 + n.ins.length) n.gates) (hV : zcz n.ins.length sh ≤ 20) {k : Nat} (hk : k < 2 + n.ins.length + n.gates.length) {N : Nat} (hN : N ≤ 2 ^ zcz n.ins.length sh) :
  zwg n sh k N = (List.range N).map fun j => (nth fs k).eval (asn (zcz n.ins.length sh) j) := by
 have hp : 2 ^ zcz n.ins.length sh ≤ 2 ^ 20 := Nat.pow_le_pow_right (by decide) hV
 have hp2 : (2 : Nat) ^ 20 < 2 ^ 62 := by decide
 refine List.map_congr_left fun j hj => ?_
 rw [List.mem_range] at hj
 have hm := jtf hsh hF hg (zuh (zcz n.ins.length sh) j) n.gates.length (Nat.le_refl _) k hk
 rw [List.take_length, jmh (by omega) (by omega)] at hm
 exact hm
end Go.Proofs.Ytgfnpfchdlcoeaa

/- The theorem of witnesses. -/
set_option linter.unusedVariables false
set_option linter.unusedSimpArgs false
set_option maxRecDepth 100000
set_option maxHeartbeats 4000000
namespace Go.Proofs.Ytgfnpfchdlcoeaa
open Go Go.RowKit
structure One (V : Nat) (us : List T) (t : T) : Prop where
 row : RowOk V us
 len : us.length ≤ 3000
 ok : t.Ok V 0
 hin : t ∈ zbn us
end Go.Proofs.Ytgfnpfchdlcoeaa

/- The theorem of counting. -/
set_option linter.unusedVariables false
set_option linter.unusedSimpArgs false
set_option maxRecDepth 100000
set_option maxHeartbeats 4000000
namespace Go.Proofs.Ytgfnpfchdlcoeaa
open Go Go.RowKit
end Go.Proofs.Ytgfnpfchdlcoeaa
