/- Of no program: reduced ordered trees; two that have the same values are equal. -/
import Derived.Test.YtapjobndmmkanaaAZ
import Derived.Test.YtapjobndmmkanaaQr
import Derived.Test.YtapjobndmmkanaaTy
set_option linter.unusedVariables false
set_option linter.unusedSimpArgs false
namespace Go.Proofs.Ytapjobndmmkanaa
inductive T where
 | leaf (b : Bool)
 | node (v : Nat) (lo hi : T)
 deriving DecidableEq, Inhabited
def upd (a : Nat → Bool) (v : Nat) (b : Bool) : Nat → Bool := fun i => if i = v then b else a i
/- Lists of numbers; nets: how they lie in memory; the small functions of the simulation. -/
set_option maxRecDepth 100000
set_option maxHeartbeats 4000000
section
open Go Go.RowKit
theorem ycb : ((type_of% @zc2) ∧ ((type_of% @zew) ∧ (type_of% @zex))) := ⟨@zc2, ⟨@zew, @zex⟩⟩
theorem jf3 {p q : Prop} (hq : q) (h : p = q := by
 conv => lhs; simp -dsimp -implicitDefEqProofs (disch := first | assumption | omega | (simp only [r_z] <;> omega) | decide) only [r_r, ↓reduceIte, Nat.reduceEqDiff, Nat.reduceAdd, D.fix, Int.reduceToNat, Nat.reduceMul, Nat.reduceBNe, Nat.reduceBEq]) : p := h.mpr hq
theorem jjy {p q : Prop} (hq : q) (h : p = q := by
 conv => lhs; simp -dsimp -implicitDefEqProofs (disch := first | assumption | omega | (simp only [r_z] <;> omega) | decide) only [r_r, ↓reduceIte, Nat.reduceEqDiff, Nat.reduceAdd, D.fix, Int.reduceToNat, Nat.reduceMul, Nat.reduceBNe, Nat.reduceBEq, ycb]) : p := h.mpr hq
theorem ye8 {m : List Nat} {τ τ' : Fr} {H H' : zae} (h2 : H = H') (h : zfq τ τ' := by
 repeat (first | exact zas _ | refine zao ?_ (by first | rfl | (simp [r_f]; done) | simp [r_f, *]))) : Rt m τ H τ' H' := Rt.end h h2
theorem ycc {p q : Prop} (hq : q) (h : p = q := by
 conv => lhs; simp (disch := first | assumption | omega | (simp only [r_z] <;> omega) | decide) only [r_c, Nat.reduceAdd, D.fix, ↓reduceIte, Nat.reduceEqDiff]) : p := h.mpr hq
theorem jvw (a b : List Int) (ha : a.length ≤ maxLen) : zbg Try.prog 24 [intsD a, intsD b] (.d (oD (decide (a = b)))) := by
 refine za4 (fn := Try.f24) (by kernel_rfl) Try.func24 rfl (Nat.le_of_ble_eq_true rfl) fun c hc hp => ?_
 refine za9 (τ' := frL [(0, .d (intsD a)), (1, .d (intsD b))]) (by repeat (first | exact zas _ | refine zao ?_ (by first | rfl | (simp [r_f]; done) | simp [r_f, *]))) ?_
 unfold maxLen at ha
 refine szq hp (fun _ hZ => jf3 hZ) ?_
 refine zaa fun K2 hK2 => ?_
 refine szq hp (fun _ hZ => jjy hZ) ?_
 refine zal rfl (fun ht => ?_) (fun ht => ?_)
 ·have hne : a ≠ b := fun e => by subst e; simp at ht
  refine szq hp (fun _ hZ => jf3 hZ) ?_
  refine zam ?_
  show closeA _ _ = _
  refine ycc ?_
  simp [hne]
 ·have hl : a.length = b.length := by simp at ht; omega
  refine zaj (hK2 _ _ ?_)
  refine zaa fun K5 hK5 => ?_
  refine szq hp (fun _ hZ => jf3 hZ) ?_
  refine zaf ?_
  refine zan hp (fun τ' H' mm => ∃ k, (k ≤ a.length ∧ a.take k = b.take k) ∧ mm = a.length - k ∧ H' = [] ∧ τ' = frL [(5, .d (iD k)), (0, .d (intsD a)), (1, .d (intsD b))]) (a.length) ?_ ⟨0, ⟨Nat.zero_le _, rfl⟩, rfl, rfl, rfl⟩ ?_
  ·refine ye8 ?_
   first | rfl | (simp only [r_g, Nat.reduceAdd, ↓reduceIte, Nat.reduceEqDiff]; first | done | rfl)
  rintro τ' H' mm ⟨k, ⟨hk, htake⟩, rfl, rfl, rfl⟩
  refine zaa fun K7 hK7 => ?_
  refine szq hp (fun _ hZ => jjy hZ) ?_
  refine zal rfl (fun ht => ?_) (fun ht => ?_)
  ·have hlt : k < a.length := by simp at ht; omega
   have hlt2 : k < b.length := by omega
   refine zaj (hK7 _ _ ?_)
   refine zaa fun K9 hK9 => ?_
   refine zaf ?_
   refine za5 zak hc mixed rfl (q := 0) (by kernel_rfl) (by kernel_rfl) fun K10 hK10 => ?_
   refine jjy ?_
   refine hK10 _ _ ?_
   refine zal rfl (fun ht => ?_) (fun ht => ?_)
   ·have hne : a ≠ b := fun e => by subst e; simp at ht
    refine szq hp (fun _ hZ => jf3 hZ) ?_
    refine zam ?_
    show closeA _ _ = _
    refine ycc ?_
    simp [hne]
   ·refine zaj (hK9 _ _ ?_)
    refine za1 hp zak hc rfl fun K12 hK12 => ?_
    refine jjy ?_
    refine hK12 _ _ ⟨_, _, _, ?_, ⟨k + 1, ⟨by omega, zta hlt hlt2 htake (by simpa using ht)⟩, rfl, rfl, rfl⟩, ?_⟩
    ·first | omega | (simp only [List.length_cons]; omega) | (dsimp only; omega)
    ·refine ye8 ?_
     first | rfl | (simp only [r_g, Nat.reduceAdd, ↓reduceIte, Nat.reduceEqDiff]; first | done | rfl)
  ·have hge : k = a.length := by simp at ht; omega
   have he : a = b := by rw [hge, List.take_length, hl, List.take_length] at htake; exact htake
   refine zau (hK5 _ _ ?_)
   refine szq hp (fun _ hZ => jf3 hZ) ?_
   refine zam ?_
   show closeA _ _ = _
   refine ycc ?_
   simp [he]
structure Wire where
 kind : Int
 i : Int
 bit : Int
instance : Inhabited Wire := ⟨⟨0, 0, 0⟩⟩
structure Gate where
 op : Int
 a : Int
 b : Int
 c : Int
 n : Int
instance : Inhabited Gate := ⟨⟨0, 0, 0, 0, 0⟩⟩
structure Net where
 ins : List Wire
 gates : List Gate
 out : List Wire
 drive : List Int
def za2 (w : Wire) : List D := [iD w.kind, iD w.i, iD w.bit]
def zav (g : Gate) : List D := [iD g.op, iD g.a, iD g.b, iD g.c, iD g.n]
def zay (l : List Wire) : D := .fs (l.flatMap za2) l.length
def za3 (l : List Gate) : D := .fs (l.flatMap zav) l.length
def zb7 (n : Net) : List D := [zay n.ins, za3 n.gates, zay n.out, intsD n.drive]
def zcb (n : Net) : D := .agg (zb7 n)
theorem zjz (g : Gate) : (zav g).length = 5 := rfl
theorem zk8 (w : Wire) : (za2 w).length = 3 := rfl
section
variable {l : List Gate} {k : Nat}
theorem zjj (h : k < l.length) : zbv (l.flatMap zav) (k * 5) 5 = some (zav (nth l k)) := zf8 zjz h
theorem jny (h : k < l.length) : (l.flatMap zav)[k * 5]? = some (iD (nth l k).op) := (zci (j := 0) zjz h (by omega)).trans rfl
theorem jnz (h : k < l.length) : (l.flatMap zav)[k * 5 + 1]? = some (iD (nth l k).a) := (zci (j := 1) zjz h (by omega)).trans rfl
theorem zac : (l.flatMap zav).length = l.length * 5 := zca zjz l
theorem zz2 (l : List Gate) : (l.flatMap zav).map D.fix = l.flatMap zav := zx6 (fun _ => rfl) l
theorem zny (l : List Wire) : (l.flatMap za2).map D.fix = l.flatMap za2 := zx6 (fun _ => rfl) l
end
section
variable {l : List Wire} {k : Nat}
theorem zhi (h : k < l.length) : zbv (l.flatMap za2) (k * 3) 3 = some (za2 (nth l k)) := zf8 zk8 h
theorem zab : (l.flatMap za2).length = l.length * 3 := zca zk8 l
end
/- netsim.Eval: the values of all nodes. -/
end
section
open Go Go.RowKit
theorem ygw : (type_of% @zfr) := @zfr
structure GateOk (m : Nat) (g : Gate) : Prop where
 o1 : 1 ≤ g.op
 o2 : g.op ≤ 7
 a0 : 0 ≤ g.a
 a1 : g.a < m
 b0 : 0 ≤ g.b
 b1 : g.b < m
 c0 : 0 ≤ g.c
 c1 : g.c < m
 n0 : 0 ≤ g.n
 n1 : g.n < 1000000
def zvw (m : Nat) (l : List Gate) : Prop := ∀ k, k < l.length → GateOk (m + k) (nth l k)
end
end Go.Proofs.Ytapjobndmmkanaa
