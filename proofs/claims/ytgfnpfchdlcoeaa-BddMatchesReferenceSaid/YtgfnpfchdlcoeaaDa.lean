/- Lists of numbers; nets: how they lie in memory; the small functions of the simulation. -/
import Derived.Test.YtgfnpfchdlcoeaaQr
import Derived.Test.YtgfnpfchdlcoeaaQ
import Derived.Test.YtgfnpfchdlcoeaaTy
import Derived.Test.YtgfnpfchdlcoeaaBa
set_option linter.unusedVariables false
set_option linter.unusedSimpArgs false
set_option maxRecDepth 100000
set_option maxHeartbeats 4000000
namespace Go.Proofs.Ytgfnpfchdlcoeaa
open Go Go.RowKit
theorem jjo (a b : List Int) (ha : a.length ≤ maxLen) : zbi Try.prog 24 [zay a, zay b] (.d (oD (decide (a = b)))) := by
 refine za8 (fn := Try.f24) (by kernel_rfl) Try.func24 rfl (Nat.le_of_ble_eq_true rfl) fun c hc hp => ?_
 refine zba (τ' := frL [(0, .d (zay a)), (1, .d (zay b))]) (zaa (zaa (zae _) rfl) rfl) ?_
 unfold maxLen at ha
 refine zab hp zad hc rfl fun K1 hK1 => ?_
 simp -dsimp -implicitDefEqProofs (disch := first | omega | decide) only [q_r, zay]
 refine hK1 _ _ ?_
 refine zaf fun K2 hK2 => ?_
 refine zab hp zad hc rfl fun K3 hK3 => ?_
 simp -dsimp -implicitDefEqProofs (disch := first | omega | decide) only [q_r, zc1, zar, ↓reduceIte, Nat.reduceEqDiff, zc3]
 refine hK3 _ _ ?_
 refine zag rfl (fun ht => ?_) (fun ht => ?_)
 ·have hne : a ≠ b := fun e => by subst e; simp at ht
  refine zab hp zad hc rfl fun K4 hK4 => ?_
  simp -dsimp -implicitDefEqProofs (disch := first | omega | decide) only [q_r]
  refine hK4 _ _ ?_
  refine zao ?_
  show zaj _ _ = _
  simp (disch := first | omega | decide) only [zaj, zct, za1, D.fix, zat, ↓reduceIte, Option.map_some, List.length_nil, oD]
  simp [hne]
 ·have hl : a.length = b.length := by simp at ht; omega
  refine zan (hK2 _ _ ?_)
  refine zaf fun K5 hK5 => ?_
  refine zab hp zad hc rfl fun K6 hK6 => ?_
  simp -dsimp -implicitDefEqProofs (disch := first | omega | decide) only [q_r]
  refine hK6 _ _ ?_
  refine zaq ?_
  refine za4 hp (fun τ' H' mm => ∃ k, (k ≤ a.length ∧ a.take k = b.take k) ∧ mm = a.length - k ∧ H' = [] ∧ τ' = frL [(5, .d (iD k)), (0, .d (zay a)), (1, .d (zay b))]) (a.length) ?_ ⟨0, ⟨Nat.zero_le _, rfl⟩, rfl, rfl, rfl⟩ ?_
  ·refine Rt.end (zaa (zaa (zaa (zae _) rfl) rfl) rfl) ?_
   rfl
  rintro τ' H' mm ⟨k, ⟨hk, htake⟩, rfl, rfl, rfl⟩
  refine zaf fun K7 hK7 => ?_
  refine zab hp zad hc rfl fun K8 hK8 => ?_
  simp -dsimp -implicitDefEqProofs (disch := first | omega | decide) only [q_r, zc1, zar, ↓reduceIte, Nat.reduceEqDiff, iD, zay, zc3]
  refine hK8 _ _ ?_
  refine zag rfl (fun ht => ?_) (fun ht => ?_)
  ·have hlt : k < a.length := by simp at ht; omega
   have hlt2 : k < b.length := by omega
   refine zan (hK7 _ _ ?_)
   refine zaf fun K9 hK9 => ?_
   refine zaq ?_
   refine zbo zad hc mixed rfl (q := 0) (by kernel_rfl) (by kernel_rfl) fun K10 hK10 => ?_
   simp -dsimp -implicitDefEqProofs (disch := first | omega | decide) only [q_r, zam, ixO, zai, ↓reduceIte, List.append_nil, List.replicate_zero, Int.toNat_natCast, Nat.reduceEqDiff, killAll, iD, Nat.reduceAdd, zc3, zci, zcn]
   refine hK10 _ _ ?_
   refine zag rfl (fun ht => ?_) (fun ht => ?_)
   ·have hne : a ≠ b := fun e => by subst e; simp at ht
    refine zab hp zad hc rfl fun K11 hK11 => ?_
    simp -dsimp -implicitDefEqProofs (disch := first | omega | decide) only [q_r]
    refine hK11 _ _ ?_
    refine zao ?_
    show zaj _ _ = _
    simp (disch := first | omega | decide) only [zaj, zct, za1, D.fix, zat, ↓reduceIte, Option.map_some, List.length_nil, oD]
    simp [hne]
   ·refine zan (hK9 _ _ ?_)
    refine zbs hp zad hc rfl fun K12 hK12 => ?_
    simp -dsimp -implicitDefEqProofs (disch := first | omega | decide) only [q_r, ↓reduceIte, Nat.reduceEqDiff]
    refine hK12 _ _ ⟨_, _, _, ?_, ⟨k + 1, ⟨by omega, zg8 hlt hlt2 htake (by simpa using ht)⟩, rfl, rfl, rfl⟩, ?_⟩
    ·first | omega | (simp only [List.length_cons]; omega) | (dsimp only; omega)
    ·refine Rt.end (zaa (zaa (zaa (zae _) rfl) rfl) rfl) ?_
     rfl
  ·have hge : k = a.length := by simp at ht; omega
   have he : a = b := by rw [hge, List.take_length, hl, List.take_length] at htake; exact htake
   refine zbd (hK5 _ _ ?_)
   refine zab hp zad hc rfl fun K13 hK13 => ?_
   simp -dsimp -implicitDefEqProofs (disch := first | omega | decide) only [q_r]
   refine hK13 _ _ ?_
   refine zao ?_
   show zaj _ _ = _
   simp (disch := first | omega | decide) only [zaj, zct, za1, D.fix, zat, ↓reduceIte, Option.map_some, List.length_nil, oD]
   simp [he]
structure Wire where
 kind : Int
 i : Int
 bit : Int
instance : Inhabited Wire := ⟨⟨0, 0, 0⟩⟩
structure Gate where
 op : Int
 a : Int
 b : Int
 c : Int
 n : Int
instance : Inhabited Gate := ⟨⟨0, 0, 0, 0, 0⟩⟩
structure Net where
 ins : List Wire
 gates : List Gate
 out : List Wire
 drive : List Int
def zjr (w : Wire) : List D := [iD w.kind, iD w.i, iD w.bit]
def zd4 (g : Gate) : List D := [iD g.op, iD g.a, iD g.b, iD g.c, iD g.n]
def zbh (l : List Wire) : D := .fs (l.flatMap zjr) l.length
def zbg (l : List Gate) : D := .fs (l.flatMap zd4) l.length
def zc2 (n : Net) : List D := [zbh n.ins, zbg n.gates, zbh n.out, zay n.drive]
def zf1 (n : Net) : D := .agg (zc2 n)
theorem jjp (g : Gate) : (zd4 g).length = 5 := rfl
theorem jo2 (w : Wire) : (zjr w).length = 3 := rfl
section
variable {l : List Gate} {k : Nat}
theorem zze (h : k < l.length) : zc9 (l.flatMap zd4) (k * 5) 5 = some (zd4 (nth l k)) := zg9 jjp h
theorem zby : (l.flatMap zd4).length = l.length * 5 := zez jjp l
theorem zzf (l : List Gate) : (l.flatMap zd4).map D.fix = l.flatMap zd4 := zl5 (fun _ => rfl) l
theorem zzg (l : List Wire) : (l.flatMap zjr).map D.fix = l.flatMap zjr := zl5 (fun _ => rfl) l
end
section
variable {l : List Wire} {k : Nat}
theorem zbe : (l.flatMap zjr).length = l.length * 3 := zez jo2 l
end
def jlh (v b : Int) : Bool := jcl .and .i64 (v.fdiv (2 ^ min b.toNat 64)) 1 == 1
def jh0 (a b c : Bool) : Int := (if a then 1 else 0) + (if b then 2 else 0) + (if c then 4 else 0)
theorem jo3 (a b c : Bool) : 0 ≤ jh0 a b c ∧ jh0 a b c ≤ 7 := by cases a <;> cases b <;> cases c <;> decide
def zt3 (mems : List (List Int)) (n x : Int) : Bool := decide (n / 8 < mems.length) && (decide (x < (nth mems (n / 8).toNat).length) && jlh (nth (nth mems (n / 8).toNat) x.toNat) (n % 8))
end Go.Proofs.Ytgfnpfchdlcoeaa
