/- netsim.Eval: the values of all nodes. -/
import Derived.Test.YtgfnpfchdlcoeaaQr
import Derived.Test.YtgfnpfchdlcoeaaQ
import Derived.Test.YtgfnpfchdlcoeaaDa
set_option linter.unusedVariables false
set_option linter.unusedSimpArgs false
set_option maxRecDepth 100000
set_option maxHeartbeats 4000000
namespace Go.Proofs.Ytgfnpfchdlcoeaa
open Go Go.RowKit
structure GateOk (m : Nat) (g : Gate) : Prop where
 o1 : 1 ≤ g.op
 o2 : g.op ≤ 7
 a0 : 0 ≤ g.a
 a1 : g.a < m
 b0 : 0 ≤ g.b
 b1 : g.b < m
 c0 : 0 ≤ g.c
 c1 : g.c < m
 n0 : 0 ≤ g.n
 n1 : g.n < 1000000
def GatesOk (m : Nat) (l : List Gate) : Prop := ∀ k, k < l.length → GateOk (m + k) (nth l k)
def opN (mems : List (List Int)) (v : List Bool) (g : Gate) : Bool :=
 if g.op = 7 then zt3 mems g.n (jh0 (nth v g.a.toNat) (nth v g.b.toNat) (nth v g.c.toNat))
 else if g.op = 1 then !nth v g.a.toNat
 else if g.op = 2 then nth v g.a.toNat && nth v g.b.toNat
 else if g.op = 3 then nth v g.a.toNat || nth v g.b.toNat
 else if g.op = 4 then nth v g.a.toNat != nth v g.b.toNat
 else if g.op = 5 then if nth v g.a.toNat then nth v g.b.toNat else nth v g.c.toNat
 else nth v g.a.toNat && (nth v g.b.toNat || nth v g.c.toNat) || nth v g.b.toNat && nth v g.c.toNat
def zhg (mems : List (List Int)) (v : List Bool) (l : List Gate) : List Bool := l.foldl (fun v g => v ++ [opN mems v g]) v
def jce (gates : List Gate) (inp : List Bool) (mems : List (List Int)) : List Bool := zhg mems (false :: true :: inp) gates
theorem zg3 (mems : List (List Int)) : ∀ (l : List Gate) (v : List Bool), (zhg mems v l).length = v.length + l.length
 | [], v => rfl
 | g :: l, v => by
  show (zhg mems (v ++ [opN mems v g]) l).length = _
  rw [zg3 mems l]; simp; omega
theorem zsy (mems : List (List Int)) (v : List Bool) {l : List Gate} {k : Nat} (h : k < l.length) : zhg mems v (l.take (k + 1)) = zhg mems v (l.take k) ++ [opN mems (zhg mems v (l.take k)) (nth l k)] := by
 rw [zel h]; simp [zhg]
end Go.Proofs.Ytgfnpfchdlcoeaa
