/- Valid nets are found valid; wires compared. -/
import Derived.Test.YtignimmnnccblaaQr
import Derived.Test.YtignimmnnccblaaMk
set_option linter.unusedVariables false
set_option linter.unusedSimpArgs false
set_option maxRecDepth 100000
set_option maxHeartbeats 4000000
namespace Go.Proofs.Ytignimmnnccblaa
open Go Go.RowKit
theorem zb0 : ((((((type_of% @zn0) ∧ ((type_of% @zn1) ∧ (type_of% @jdr))) ∧ (((type_of% @jds) ∧ (type_of% @zex)) ∧ ((type_of% @zey) ∧ (type_of% @zfa)))) ∧ ((((type_of% @zqk) ∧ (type_of% @zql)) ∧ ((type_of% @zde) ∧ (type_of% @zdf))) ∧ (((type_of% @zdg) ∧ (type_of% @zdq)) ∧ ((type_of% @zy9) ∧ (type_of% @zza))))) ∧ ((((type_of% @zds) ∧ ((type_of% @zdt) ∧ (type_of% @zcr))) ∧ (((type_of% @zcs) ∧ (type_of% @ze4)) ∧ ((type_of% @ze5) ∧ (type_of% @ze6)))) ∧ ((((type_of% @ze7) ∧ (type_of% @jmn)) ∧ ((type_of% @jmm) ∧ (type_of% @zc6))) ∧ (((type_of% @zc7) ∧ (type_of% @zfq)) ∧ ((type_of% @zfr) ∧ (type_of% @zfs)))))) ∧ (((((type_of% @zft) ∧ ((type_of% @zgu) ∧ (type_of% @zgv))) ∧ (((type_of% @zfc) ∧ (type_of% @zfd)) ∧ ((type_of% @zss) ∧ (type_of% @zsr)))) ∧ ((((type_of% @zmk) ∧ (type_of% @zml)) ∧ ((type_of% @zq4) ∧ (type_of% @zqi))) ∧ (((type_of% @zqj) ∧ (type_of% @zh1)) ∧ ((type_of% @zh2) ∧ (type_of% @zkv))))) ∧ ((((type_of% @zku) ∧ ((type_of% @zlz) ∧ (type_of% @zl0))) ∧ (((type_of% @zhq) ∧ (type_of% @zhr)) ∧ ((type_of% @zir) ∧ (type_of% @zis)))) ∧ ((((type_of% @zgw) ∧ (type_of% @zgx)) ∧ ((type_of% @zfe) ∧ (type_of% @zff))) ∧ (((type_of% @zfg) ∧ (type_of% @zfh)) ∧ ((type_of% @zfi) ∧ (type_of% @zfj))))))) := ⟨⟨⟨⟨⟨@zn0, ⟨@zn1, @jdr⟩⟩, ⟨⟨@jds, @zex⟩, ⟨@zey, @zfa⟩⟩⟩, ⟨⟨⟨@zqk, @zql⟩, ⟨@zde, @zdf⟩⟩, ⟨⟨@zdg, @zdq⟩, ⟨@zy9, @zza⟩⟩⟩⟩, ⟨⟨⟨@zds, ⟨@zdt, @zcr⟩⟩, ⟨⟨@zcs, @ze4⟩, ⟨@ze5, @ze6⟩⟩⟩, ⟨⟨⟨@ze7, @jmn⟩, ⟨@jmm, @zc6⟩⟩, ⟨⟨@zc7, @zfq⟩, ⟨@zfr, @zfs⟩⟩⟩⟩⟩, ⟨⟨⟨⟨@zft, ⟨@zgu, @zgv⟩⟩, ⟨⟨@zfc, @zfd⟩, ⟨@zss, @zsr⟩⟩⟩, ⟨⟨⟨@zmk, @zml⟩, ⟨@zq4, @zqi⟩⟩, ⟨⟨@zqj, @zh1⟩, ⟨@zh2, @zkv⟩⟩⟩⟩, ⟨⟨⟨@zku, ⟨@zlz, @zl0⟩⟩, ⟨⟨@zhq, @zhr⟩, ⟨@zir, @zis⟩⟩⟩, ⟨⟨⟨@zgw, @zgx⟩, ⟨@zfe, @zff⟩⟩, ⟨⟨@zfg, @zfh⟩, ⟨@zfi, @zfj⟩⟩⟩⟩⟩⟩
structure NetV (n : Net) : Prop where
 len : 2 + n.ins.length + n.gates.length ≤ 600
 d0 : n.out.length = n.drive.length
 wi : ∀ w ∈ n.ins, WireIn w
 wo : ∀ w ∈ n.out, WireOut w
 g2 : GatesOk (2 + n.ins.length) n.gates
 gv : ∀ g ∈ n.gates, GateV g
 d2 : DriveOk (2 + n.ins.length + n.gates.length) n.drive
 dl : n.drive.length ≤ 1000
def arN (o : Int) : Nat := if o = 1 then 1 else if o ≤ 4 then 2 else 3
def zuf (g : Gate) : List Int := [g.a, g.b, g.c].take (arN g.op)
def zzl (g : Gate) : List Int := [g.a, g.b, g.c].drop (arN g.op)
theorem op7 {o : Int} (h1 : 1 ≤ o) (h2 : o ≤ 7) : o = 1 ∨ o = 2 ∨ o = 3 ∨ o = 4 ∨ o = 5 ∨ o = 6 ∨ o = 7 := by omega
theorem jl9 {o : Int} (h1 : 1 ≤ o) (h2 : o ≤ 7) : (o = 1 ∧ arN o = 1) ∨ (2 ≤ o ∧ o ≤ 4 ∧ arN o = 2) ∨ (5 ≤ o ∧ arN o = 3) := by
 unfold arN
 split
 ·exact .inl ⟨by omega, rfl⟩
 ·split
  ·exact .inr (.inl ⟨by omega, by omega, rfl⟩)
  ·exact .inr (.inr ⟨by omega, rfl⟩)
theorem jma {m : Nat} {g : Gate} (h : GateOk m g) : (zuf g).any (znp m) = false := by
 rw [List.any_eq_false]
 intro x hx
 have hx := List.mem_of_mem_take hx
 simp only [List.mem_cons, List.not_mem_nil, or_false] at hx
 have a0 := h.a0; have a1 := h.a1; have b0 := h.b0; have b1 := h.b1; have c0 := h.c0; have c1 := h.c1
 simp only [znp, Bool.or_eq_true, decide_eq_true_eq, not_or]
 rcases hx with rfl | rfl | rfl <;> constructor <;> omega
theorem jr6 {g : Gate} (h1 : 1 ≤ g.op) (h2 : g.op ≤ 7) (h : GateV g) : (zzl g).any (fun x => x != 0) = false := by
 unfold zzl
 rcases jl9 h1 h2 with ⟨k1, k2⟩ | ⟨k1, k3, k2⟩ | ⟨k1, k2⟩ <;> rw [k2]
 ·simp [h.b k1, h.c (by omega)]
 ·simp [h.c k3]
 ·simp
theorem jg6 {g : Gate} (h1 : 1 ≤ g.op) (h2 : g.op ≤ 7) : ((((zuf g).length : Nat) : Int) == 0) = false := by
 unfold zuf
 rcases jl9 h1 h2 with ⟨k1, k2⟩ | ⟨k1, k3, k2⟩ | ⟨k1, k2⟩ <;> rw [k2] <;> rfl
theorem zzm (g : Gate) (h1 : 1 ≤ g.op) (h2 : g.op ≤ 7) : za9 Try.prog 41 [.agg (zap g)] (.tup [.d (intsD (zuf g)), .d (intsD (zzl g))]) := by
 obtain ⟨o, a, b, c, n⟩ := g
 rcases op7 h1 h2 with h | h | h | h | h | h | h <;> (simp only at h; subst h; exact zb6 (n := 80) mixed zaj (by kernel_rfl))
theorem je0 (w : Wire) (h0 : 0 ≤ w.i) (h1 : 0 ≤ w.bit) (h2 : w.bit ≤ 7) : za9 Try.prog 40 [.agg (za5 w)] (.d (oD true)) := by
 have q0 : decide (0 ≤ w.i) = true := decide_eq_true h0
 have q1 : decide (0 ≤ w.bit) = true := decide_eq_true h1
 have q2 : decide (w.bit < 8) = true := decide_eq_true (by omega)
 refine zbc (fn := Try.f40) (by kernel_rfl) Try.func40 rfl (Nat.le_of_ble_eq_true rfl) fun c hc hp => ?_
 refine zbf (τ' := frL [(0, .d (.agg (za5 w)))]) (by repeat (first | exact zak _ | refine zah ?_ (by first | rfl | (simp [r_f]; done) | simp [r_f, *]))) ?_
 refine zac hp zaj hc rfl fun K1 hK1 => ?_
 simp -dsimp -implicitDefEqProofs (disch := first | assumption | omega | (simp only [r_z] <;> omega) | decide) only [r_r, ↓reduceIte, Nat.reduceEqDiff, Nat.reduceAdd, D.fix, Int.reduceToNat, Nat.reduceMul, Nat.reduceBNe, Nat.reduceBEq, za5, zb0]
 refine hK1 _ _ ?_
 refine zac hp zaj hc rfl fun K2 hK2 => ?_
 simp -dsimp -implicitDefEqProofs (disch := first | assumption | omega | (simp only [r_z] <;> omega) | decide) only [r_r, ↓reduceIte, Nat.reduceEqDiff, Nat.reduceAdd, D.fix, Int.reduceToNat, Nat.reduceMul, Nat.reduceBNe, Nat.reduceBEq, za5, q0, q1, q2, zb0]
 refine hK2 _ _ ?_
 refine za4 ?_
 show closeA _ _ = _
 simp (disch := first | assumption | omega | (simp only [r_z] <;> omega) | decide) only [r_c, Nat.reduceAdd, D.fix, ↓reduceIte, Nat.reduceEqDiff, za5]
theorem jr7 (n f i : Int) (hf : 0 ≤ f ∧ f ≤ 1000000) (hi : 0 ≤ i ∧ i ≤ 1000000) : za9 Try.prog 42 [iD n, .fp [iD f] 0, .fp [iD i] 0] (.d (oD (znp (f + i) n))) := by
 refine zbc (fn := Try.f42) (by kernel_rfl) Try.func42 rfl (Nat.le_of_ble_eq_true rfl) fun c hc hp => ?_
 refine zbf (τ' := frL [(0, .d (iD n)), (1, .d (.fp [iD f] 0)), (2, .d (.fp [iD i] 0))]) (by repeat (first | exact zak _ | refine zah ?_ (by first | rfl | (simp [r_f]; done) | simp [r_f, *]))) ?_
 refine zac hp zaj hc rfl fun K1 hK1 => ?_
 simp -dsimp -implicitDefEqProofs (disch := first | assumption | omega | (simp only [r_z] <;> omega) | decide) only [r_r, ↓reduceIte, Nat.reduceEqDiff, Nat.reduceAdd, D.fix, Int.reduceToNat, Nat.reduceMul, Nat.reduceBNe, Nat.reduceBEq]
 refine hK1 _ _ ?_
 refine zac hp zaj hc rfl fun K2 hK2 => ?_
 rcases tf (decide (n < 0)) with q | q
 ·simp -dsimp -implicitDefEqProofs (disch := first | assumption | omega | (simp only [r_z] <;> omega) | decide) only [r_r, ↓reduceIte, Nat.reduceEqDiff, Nat.reduceAdd, D.fix, Int.reduceToNat, Nat.reduceMul, Nat.reduceBNe, Nat.reduceBEq, q, zb0]
  refine hK2 _ _ ?_
  refine za4 ?_
  show closeA _ _ = _
  simp (disch := first | assumption | omega | (simp only [r_z] <;> omega) | decide) only [r_c, Nat.reduceAdd, D.fix, ↓reduceIte, Nat.reduceEqDiff]
  simp [znp, q]
 ·simp -dsimp -implicitDefEqProofs (disch := first | assumption | omega | (simp only [r_z] <;> omega) | decide) only [r_r, ↓reduceIte, Nat.reduceEqDiff, Nat.reduceAdd, D.fix, Int.reduceToNat, Nat.reduceMul, Nat.reduceBNe, Nat.reduceBEq, q, zb0]
  refine hK2 _ _ ?_
  refine za4 ?_
  show closeA _ _ = _
  simp (disch := first | assumption | omega | (simp only [r_z] <;> omega) | decide) only [r_c, Nat.reduceAdd, D.fix, ↓reduceIte, Nat.reduceEqDiff]
  simp [znp, q]
theorem jr8 (n : Int) : za9 Try.prog 44 [iD n] (.d (oD (n != 0))) := by
 refine zbc (fn := Try.f44) (by kernel_rfl) Try.func44 rfl (Nat.le_of_ble_eq_true rfl) fun c hc hp => ?_
 refine zbf (τ' := frL [(0, .d (iD n))]) (by repeat (first | exact zak _ | refine zah ?_ (by first | rfl | (simp [r_f]; done) | simp [r_f, *]))) ?_
 refine zac hp zaj hc rfl fun K1 hK1 => ?_
 simp -dsimp -implicitDefEqProofs (disch := first | assumption | omega | (simp only [r_z] <;> omega) | decide) only [r_r, ↓reduceIte, Nat.reduceEqDiff, Nat.reduceAdd, D.fix, Int.reduceToNat, Nat.reduceMul, Nat.reduceBNe, Nat.reduceBEq]
 refine hK1 _ _ ?_
 refine zac hp zaj hc rfl fun K2 hK2 => ?_
 simp -dsimp -implicitDefEqProofs (disch := first | assumption | omega | (simp only [r_z] <;> omega) | decide) only [r_r, ↓reduceIte, Nat.reduceEqDiff, Nat.reduceAdd, D.fix, Int.reduceToNat, Nat.reduceMul, Nat.reduceBNe, Nat.reduceBEq, zb0]
 refine hK2 _ _ ?_
 refine za4 ?_
 show closeA _ _ = _
 simp (disch := first | assumption | omega | (simp only [r_z] <;> omega) | decide) only [r_c, Nat.reduceAdd, D.fix, ↓reduceIte, Nat.reduceEqDiff]
theorem jmb (l : List Int) (f i : Int) (hf : 0 ≤ f ∧ f ≤ 1000000) (hi : 0 ≤ i ∧ i ≤ 1000000) (hl : l.length ≤ maxLen) : RCalls Try.prog 61 [intsD l, .clo (.func 42) [] [.fp [iD f] 0, .fp [iD i] 0]] (fun r => ∃ z : Int, r = .d (iD z) ∧ (0 ≤ z ↔ l.any (znp (f + i)) = true)) := by
 unfold maxLen at hl
 refine zd4 (fn := Try.f61) (by kernel_rfl) Try.func61 rfl (Nat.le_of_ble_eq_true rfl) fun c hc hp => ?_
 refine zbf (τ' := frL [(0, .d (intsD l)), (1, .d (.clo (.func 42) [] [.fp [iD f] 0, .fp [iD i] 0]))]) (by repeat (first | exact zak _ | refine zah ?_ (by first | rfl | (simp [r_f]; done) | simp [r_f, *]))) ?_
 refine zac hp zaj hc rfl fun K1 hK1 => ?_
 simp -dsimp -implicitDefEqProofs (disch := first | assumption | omega | (simp only [r_z] <;> omega) | decide) only [r_r, ↓reduceIte, Nat.reduceEqDiff, Nat.reduceAdd, D.fix, Int.reduceToNat, Nat.reduceMul, Nat.reduceBNe, Nat.reduceBEq]
 refine hK1 _ _ ?_
 refine zam fun K2 hK2 => ?_
 refine zac hp zaj hc rfl fun K3 hK3 => ?_
 simp -dsimp -implicitDefEqProofs (disch := first | assumption | omega | (simp only [r_z] <;> omega) | decide) only [r_r, ↓reduceIte, Nat.reduceEqDiff, Nat.reduceAdd, D.fix, Int.reduceToNat, Nat.reduceMul, Nat.reduceBNe, Nat.reduceBEq, zb0]
 refine hK3 _ _ ?_
 refine zaz ?_
 refine za7 hp (fun τ' H' mm => ∃ k, (k ≤ l.length ∧ (l.take k).any (znp (f + i)) = false) ∧ mm = l.length - k ∧ H' = [] ∧ τ' = frL [(0, .d (intsD l)), (1, .d (.clo (.func 42) [] [.fp [iD f] 0, .fp [iD i] 0])), (7, .d (iD l.length)), (8, .d (iD k))]) (l.length) ?_ ⟨0, ⟨Nat.zero_le _, rfl⟩, rfl, rfl, rfl⟩ ?_
 ·refine Rt.end (by repeat (first | exact zak _ | refine zah ?_ (by first | rfl | (simp [r_f]; done) | simp [r_f, *]))) ?_
  first | rfl | (simp only [r_g, Nat.reduceAdd, ↓reduceIte, Nat.reduceEqDiff]; first | done | rfl)
 rintro τ' H' mm ⟨k, ⟨hk, hno⟩, rfl, rfl, rfl⟩
 refine zac hp zaj hc rfl fun K4 hK4 => ?_
 simp -dsimp -implicitDefEqProofs (disch := first | assumption | omega | (simp only [r_z] <;> omega) | decide) only [r_r, ↓reduceIte, Nat.reduceEqDiff, Nat.reduceAdd, D.fix, Int.reduceToNat, Nat.reduceMul, Nat.reduceBNe, Nat.reduceBEq, zb0]
 refine hK4 _ _ ?_
 refine zam fun K5 hK5 => ?_
 refine zaq rfl (fun ht => ?_) (fun ht => ?_)
 ·have hlt : k < l.length := by simp at ht; omega
  refine zay (hK5 _ _ ?_)
  refine zam fun K6 hK6 => ?_
  refine zaz ?_
  refine zac hp zaj hc rfl fun K7 hK7 => ?_
  simp -dsimp -implicitDefEqProofs (disch := first | assumption | omega | (simp only [r_z] <;> omega) | decide) only [r_r, ↓reduceIte, Nat.reduceEqDiff, Nat.reduceAdd, D.fix, Int.reduceToNat, Nat.reduceMul, Nat.reduceBNe, Nat.reduceBEq]
  refine hK7 _ _ ?_
  refine zac hp zaj hc rfl fun K8 hK8 => ?_
  simp -dsimp -implicitDefEqProofs (disch := first | assumption | omega | (simp only [r_z] <;> omega) | decide) only [r_r, ↓reduceIte, Nat.reduceEqDiff, Nat.reduceAdd, D.fix, Int.reduceToNat, Nat.reduceMul, Nat.reduceBNe, Nat.reduceBEq, zb0]
  refine jbm (fi := []) (ca := [.fp [iD f] 0, .fp [iD i] 0]) (ds := [iD (nth l k)]) (jr7 (nth l k) f i hf hi) rfl ?_
  simp -dsimp -implicitDefEqProofs (disch := first | assumption | omega | (simp only [r_z] <;> omega) | decide) only [r_r, ↓reduceIte, Nat.reduceEqDiff, Nat.reduceAdd, D.fix, Int.reduceToNat, Nat.reduceMul, Nat.reduceBNe, Nat.reduceBEq, zb0]
  refine hK8 _ _ ?_
  refine zaq rfl (fun ht => ?_) (fun ht => ?_)
  ·have hy := ht
   refine zac hp zaj hc rfl fun K9 hK9 => ?_
   simp -dsimp -implicitDefEqProofs (disch := first | assumption | omega | (simp only [r_z] <;> omega) | decide) only [r_r, ↓reduceIte, Nat.reduceEqDiff, Nat.reduceAdd, D.fix, Int.reduceToNat, Nat.reduceMul, Nat.reduceBNe, Nat.reduceBEq]
   refine hK9 _ _ ?_
   refine za4 ?_
   show ∃ r, closeA _ _ = some r ∧ _
   simp (disch := first | assumption | omega | (simp only [r_z] <;> omega) | decide) only [r_c, Nat.reduceAdd, D.fix, ↓reduceIte, Nat.reduceEqDiff]
   exact ⟨_, rfl, _, rfl, fun _ => zmp hlt hy, fun _ => by omega⟩
  ·refine zay (hK6 _ _ ?_)
   refine zbo hp zaj hc rfl fun K10 hK10 => ?_
   simp -dsimp -implicitDefEqProofs (disch := first | assumption | omega | (simp only [r_z] <;> omega) | decide) only [r_r, ↓reduceIte, Nat.reduceEqDiff, Nat.reduceAdd, D.fix, Int.reduceToNat, Nat.reduceMul, Nat.reduceBNe, Nat.reduceBEq, zb0]
   refine hK10 _ _ ⟨_, _, _, ?_, ⟨k + 1, ⟨by omega, by rw [zmo hlt, hno, ht]; rfl⟩, rfl, rfl, rfl⟩, ?_⟩
   ·first | omega | (simp only [List.length_cons]; omega) | (dsimp only; omega)
   ·refine Rt.end (by repeat (first | exact zak _ | refine zah ?_ (by first | rfl | (simp [r_f]; done) | simp [r_f, *]))) ?_
    first | rfl | (simp only [r_g, Nat.reduceAdd, ↓reduceIte, Nat.reduceEqDiff]; first | done | rfl)
 ·have hge : k = l.length := by simp at ht; omega
  rw [hge, List.take_length] at hno
  refine zbj (hK2 _ _ ?_)
  refine zac hp zaj hc rfl fun K11 hK11 => ?_
  simp -dsimp -implicitDefEqProofs (disch := first | assumption | omega | (simp only [r_z] <;> omega) | decide) only [r_r, ↓reduceIte, Nat.reduceEqDiff, Nat.reduceAdd, D.fix, Int.reduceToNat, Nat.reduceMul, Nat.reduceBNe, Nat.reduceBEq]
  refine hK11 _ _ ?_
  refine za4 ?_
  show ∃ r, closeA _ _ = some r ∧ _
  simp (disch := first | assumption | omega | (simp only [r_z] <;> omega) | decide) only [r_c, Nat.reduceAdd, D.fix, ↓reduceIte, Nat.reduceEqDiff]
  exact ⟨_, rfl, _, rfl, fun h => by omega, fun h => by rw [hno] at h; cases h⟩
theorem zzn (l : List Int) (f i : Int) (hf : 0 ≤ f ∧ f ≤ 1000000) (hi : 0 ≤ i ∧ i ≤ 1000000) (hl : l.length ≤ maxLen) : za9 Try.prog 43 [intsD l, .clo (.func 42) [] [.fp [iD f] 0, .fp [iD i] 0]] (.d (oD (l.any (znp (f + i))))) := by
 refine zbc (fn := Try.f43) (by kernel_rfl) Try.func43 rfl (Nat.le_of_ble_eq_true rfl) fun c hc hp => ?_
 refine zbf (τ' := frL [(0, .d (intsD l)), (1, .d (.clo (.func 42) [] [.fp [iD f] 0, .fp [iD i] 0]))]) (by repeat (first | exact zak _ | refine zah ?_ (by first | rfl | (simp [r_f]; done) | simp [r_f, *]))) ?_
 refine zac hp zaj hc rfl fun K1 hK1 => ?_
 simp -dsimp -implicitDefEqProofs (disch := first | assumption | omega | (simp only [r_z] <;> omega) | decide) only [r_r, ↓reduceIte, Nat.reduceEqDiff, Nat.reduceAdd, D.fix, Int.reduceToNat, Nat.reduceMul, Nat.reduceBNe, Nat.reduceBEq]
 refine hK1 _ _ ?_
 refine zac hp zaj hc rfl fun K2 hK2 => ?_
 simp -dsimp -implicitDefEqProofs (disch := first | assumption | omega | (simp only [r_z] <;> omega) | decide) only [r_r, ↓reduceIte, Nat.reduceEqDiff, Nat.reduceAdd, D.fix, Int.reduceToNat, Nat.reduceMul, Nat.reduceBNe, Nat.reduceBEq, zb0]
 refine zop (jmb l f i hf hi hl) rfl fun r hr => ?_
 obtain ⟨z, rfl, hz⟩ := hr
 simp -dsimp -implicitDefEqProofs (disch := first | assumption | omega | (simp only [r_z] <;> omega) | decide) only [r_r, ↓reduceIte, Nat.reduceEqDiff, Nat.reduceAdd, D.fix, Int.reduceToNat, Nat.reduceMul, Nat.reduceBNe, Nat.reduceBEq, zb0]
 refine hK2 _ _ ?_
 refine za4 ?_
 show closeA _ _ = _
 simp (disch := first | assumption | omega | (simp only [r_z] <;> omega) | decide) only [r_c, Nat.reduceAdd, D.fix, ↓reduceIte, Nat.reduceEqDiff]
 congr 4
 rw [Bool.eq_iff_iff, decide_eq_true_iff]
 exact hz
theorem jmc (l : List Int) (hl : l.length ≤ maxLen) : RCalls Try.prog 61 [intsD l, .val (.func (.func 44) #[] #[])] (fun r => ∃ z : Int, r = .d (iD z) ∧ (0 ≤ z ↔ l.any (fun x => x != 0) = true)) := by
 unfold maxLen at hl
 refine zd4 (fn := Try.f61) (by kernel_rfl) Try.func61 rfl (Nat.le_of_ble_eq_true rfl) fun c hc hp => ?_
 refine zbf (τ' := frL [(0, .d (intsD l)), (1, .d (.val (.func (.func 44) #[] #[])))]) (by repeat (first | exact zak _ | refine zah ?_ (by first | rfl | (simp [r_f]; done) | simp [r_f, *]))) ?_
 refine zac hp zaj hc rfl fun K1 hK1 => ?_
 simp -dsimp -implicitDefEqProofs (disch := first | assumption | omega | (simp only [r_z] <;> omega) | decide) only [r_r, ↓reduceIte, Nat.reduceEqDiff, Nat.reduceAdd, D.fix, Int.reduceToNat, Nat.reduceMul, Nat.reduceBNe, Nat.reduceBEq]
 refine hK1 _ _ ?_
 refine zam fun K2 hK2 => ?_
 refine zac hp zaj hc rfl fun K3 hK3 => ?_
 simp -dsimp -implicitDefEqProofs (disch := first | assumption | omega | (simp only [r_z] <;> omega) | decide) only [r_r, ↓reduceIte, Nat.reduceEqDiff, Nat.reduceAdd, D.fix, Int.reduceToNat, Nat.reduceMul, Nat.reduceBNe, Nat.reduceBEq, zb0]
 refine hK3 _ _ ?_
 refine zaz ?_
 refine za7 hp (fun τ' H' mm => ∃ k, (k ≤ l.length ∧ (l.take k).any (fun x => x != 0) = false) ∧ mm = l.length - k ∧ H' = [] ∧ τ' = frL [(0, .d (intsD l)), (1, .d (.val (.func (.func 44) #[] #[]))), (7, .d (iD l.length)), (8, .d (iD k))]) (l.length) ?_ ⟨0, ⟨Nat.zero_le _, rfl⟩, rfl, rfl, rfl⟩ ?_
 ·refine Rt.end (by repeat (first | exact zak _ | refine zah ?_ (by first | rfl | (simp [r_f]; done) | simp [r_f, *]))) ?_
  first | rfl | (simp only [r_g, Nat.reduceAdd, ↓reduceIte, Nat.reduceEqDiff]; first | done | rfl)
 rintro τ' H' mm ⟨k, ⟨hk, hno⟩, rfl, rfl, rfl⟩
 refine zac hp zaj hc rfl fun K4 hK4 => ?_
 simp -dsimp -implicitDefEqProofs (disch := first | assumption | omega | (simp only [r_z] <;> omega) | decide) only [r_r, ↓reduceIte, Nat.reduceEqDiff, Nat.reduceAdd, D.fix, Int.reduceToNat, Nat.reduceMul, Nat.reduceBNe, Nat.reduceBEq, zb0]
 refine hK4 _ _ ?_
 refine zam fun K5 hK5 => ?_
 refine zaq rfl (fun ht => ?_) (fun ht => ?_)
 ·have hlt : k < l.length := by simp at ht; omega
  refine zay (hK5 _ _ ?_)
  refine zam fun K6 hK6 => ?_
  refine zaz ?_
  refine zac hp zaj hc rfl fun K7 hK7 => ?_
  simp -dsimp -implicitDefEqProofs (disch := first | assumption | omega | (simp only [r_z] <;> omega) | decide) only [r_r, ↓reduceIte, Nat.reduceEqDiff, Nat.reduceAdd, D.fix, Int.reduceToNat, Nat.reduceMul, Nat.reduceBNe, Nat.reduceBEq]
  refine hK7 _ _ ?_
  refine zac hp zaj hc rfl fun K8 hK8 => ?_
  simp -dsimp -implicitDefEqProofs (disch := first | assumption | omega | (simp only [r_z] <;> omega) | decide) only [r_r, ↓reduceIte, Nat.reduceEqDiff, Nat.reduceAdd, D.fix, Int.reduceToNat, Nat.reduceMul, Nat.reduceBNe, Nat.reduceBEq, zb0]
  refine zb4 (jr8 (nth l k)) rfl ?_
  simp -dsimp -implicitDefEqProofs (disch := first | assumption | omega | (simp only [r_z] <;> omega) | decide) only [r_r, ↓reduceIte, Nat.reduceEqDiff, Nat.reduceAdd, D.fix, Int.reduceToNat, Nat.reduceMul, Nat.reduceBNe, Nat.reduceBEq, zb0]
  refine hK8 _ _ ?_
  refine zaq rfl (fun ht => ?_) (fun ht => ?_)
  ·have hy : (fun x : Int => x != 0) (nth l k) = true := ht
   refine zac hp zaj hc rfl fun K9 hK9 => ?_
   simp -dsimp -implicitDefEqProofs (disch := first | assumption | omega | (simp only [r_z] <;> omega) | decide) only [r_r, ↓reduceIte, Nat.reduceEqDiff, Nat.reduceAdd, D.fix, Int.reduceToNat, Nat.reduceMul, Nat.reduceBNe, Nat.reduceBEq]
   refine hK9 _ _ ?_
   refine za4 ?_
   show ∃ r, closeA _ _ = some r ∧ _
   simp (disch := first | assumption | omega | (simp only [r_z] <;> omega) | decide) only [r_c, Nat.reduceAdd, D.fix, ↓reduceIte, Nat.reduceEqDiff]
   exact ⟨_, rfl, _, rfl, fun _ => zmp hlt hy, fun _ => by omega⟩
  ·refine zay (hK6 _ _ ?_)
   refine zbo hp zaj hc rfl fun K10 hK10 => ?_
   simp -dsimp -implicitDefEqProofs (disch := first | assumption | omega | (simp only [r_z] <;> omega) | decide) only [r_r, ↓reduceIte, Nat.reduceEqDiff, Nat.reduceAdd, D.fix, Int.reduceToNat, Nat.reduceMul, Nat.reduceBNe, Nat.reduceBEq, zb0]
   refine hK10 _ _ ⟨_, _, _, ?_, ⟨k + 1, ⟨by omega, by rw [zmo hlt, hno]; simpa using ht⟩, rfl, rfl, rfl⟩, ?_⟩
   ·first | omega | (simp only [List.length_cons]; omega) | (dsimp only; omega)
   ·refine Rt.end (by repeat (first | exact zak _ | refine zah ?_ (by first | rfl | (simp [r_f]; done) | simp [r_f, *]))) ?_
    first | rfl | (simp only [r_g, Nat.reduceAdd, ↓reduceIte, Nat.reduceEqDiff]; first | done | rfl)
 ·have hge : k = l.length := by simp at ht; omega
  rw [hge, List.take_length] at hno
  refine zbj (hK2 _ _ ?_)
  refine zac hp zaj hc rfl fun K11 hK11 => ?_
  simp -dsimp -implicitDefEqProofs (disch := first | assumption | omega | (simp only [r_z] <;> omega) | decide) only [r_r, ↓reduceIte, Nat.reduceEqDiff, Nat.reduceAdd, D.fix, Int.reduceToNat, Nat.reduceMul, Nat.reduceBNe, Nat.reduceBEq]
  refine hK11 _ _ ?_
  refine za4 ?_
  show ∃ r, closeA _ _ = some r ∧ _
  simp (disch := first | assumption | omega | (simp only [r_z] <;> omega) | decide) only [r_c, Nat.reduceAdd, D.fix, ↓reduceIte, Nat.reduceEqDiff]
  exact ⟨_, rfl, _, rfl, fun h => by omega, fun h => by rw [hno] at h; cases h⟩
theorem zzo (l : List Int) (hl : l.length ≤ maxLen) : za9 Try.prog 43 [intsD l, .val (.func (.func 44) #[] #[])] (.d (oD (l.any fun x => x != 0))) := by
 refine zbc (fn := Try.f43) (by kernel_rfl) Try.func43 rfl (Nat.le_of_ble_eq_true rfl) fun c hc hp => ?_
 refine zbf (τ' := frL [(0, .d (intsD l)), (1, .d (.val (.func (.func 44) #[] #[])))]) (by repeat (first | exact zak _ | refine zah ?_ (by first | rfl | (simp [r_f]; done) | simp [r_f, *]))) ?_
 refine zac hp zaj hc rfl fun K1 hK1 => ?_
 simp -dsimp -implicitDefEqProofs (disch := first | assumption | omega | (simp only [r_z] <;> omega) | decide) only [r_r, ↓reduceIte, Nat.reduceEqDiff, Nat.reduceAdd, D.fix, Int.reduceToNat, Nat.reduceMul, Nat.reduceBNe, Nat.reduceBEq]
 refine hK1 _ _ ?_
 refine zac hp zaj hc rfl fun K2 hK2 => ?_
 simp -dsimp -implicitDefEqProofs (disch := first | assumption | omega | (simp only [r_z] <;> omega) | decide) only [r_r, ↓reduceIte, Nat.reduceEqDiff, Nat.reduceAdd, D.fix, Int.reduceToNat, Nat.reduceMul, Nat.reduceBNe, Nat.reduceBEq, zb0]
 refine zop (jmc l hl) rfl fun r hr => ?_
 obtain ⟨z, rfl, hz⟩ := hr
 simp -dsimp -implicitDefEqProofs (disch := first | assumption | omega | (simp only [r_z] <;> omega) | decide) only [r_r, ↓reduceIte, Nat.reduceEqDiff, Nat.reduceAdd, D.fix, Int.reduceToNat, Nat.reduceMul, Nat.reduceBNe, Nat.reduceBEq, zb0]
 refine hK2 _ _ ?_
 refine za4 ?_
 show closeA _ _ = _
 simp (disch := first | assumption | omega | (simp only [r_z] <;> omega) | decide) only [r_c, Nat.reduceAdd, D.fix, ↓reduceIte, Nat.reduceEqDiff]
 congr 4
 rw [Bool.eq_iff_iff, decide_eq_true_iff]
 exact hz
theorem jj7 {m k : Nat} {l : List Gate} (h : GatesOk m l) (hk : k < l.length) : GateOk (m + k) (nth l k) := h k hk
theorem jmd (n : Net) (h : NetV n) : za9 Try.prog 25 [zas n] (.d (oD true)) := by
 have hlen := h.len
 have hd0 := h.d0
 have hdl := h.dl
 have q0 : decide ((600 : Int) < 2 + n.ins.length + n.gates.length) = false := decide_eq_false (by omega)
 have q1 : ((n.out.length : Int) != n.drive.length) = false := by simp; omega
 refine zbc (fn := Try.f25) (by kernel_rfl) Try.func25 rfl (Nat.le_of_ble_eq_true rfl) fun c hc hp => ?_
 refine zbf (τ' := frL [(0, .d (zas n))]) (by repeat (first | exact zak _ | refine zah ?_ (by first | rfl | (simp [r_f, zaa, zab]; done) | simp [r_f, zaa, zab, *]))) ?_
 refine zac hp zaj hc rfl fun K1 hK1 => ?_
 simp -dsimp -implicitDefEqProofs (disch := first | assumption | omega | (simp only [r_z, zaa, zab] <;> omega) | decide) only [r_r, ↓reduceIte, Nat.reduceEqDiff, Nat.reduceAdd, D.fix, Int.reduceToNat, Nat.reduceMul, Nat.reduceBNe, Nat.reduceBEq, zas, zax, zae, zaf, za5, zap, zb0]
 refine hK1 _ _ ?_
 refine zac hp zaj hc rfl fun K2 hK2 => ?_
 simp -dsimp -implicitDefEqProofs (disch := first | assumption | omega | (simp only [r_z, zaa, zab] <;> omega) | decide) only [r_r, ↓reduceIte, Nat.reduceEqDiff, Nat.reduceAdd, D.fix, Int.reduceToNat, Nat.reduceMul, Nat.reduceBNe, Nat.reduceBEq, zas, zax, zae, zaf, za5, zap, zb0]
 refine hK2 _ _ ?_
 refine zac hp zaj hc rfl fun K3 hK3 => ?_
 simp -dsimp -implicitDefEqProofs (disch := first | assumption | omega | (simp only [r_z, zaa, zab] <;> omega) | decide) only [r_r, ↓reduceIte, Nat.reduceEqDiff, Nat.reduceAdd, D.fix, Int.reduceToNat, Nat.reduceMul, Nat.reduceBNe, Nat.reduceBEq, zas, zax, zae, zaf, za5, zap, zb0]
 refine hK3 _ _ ?_
 refine zam fun K4 hK4 => ?_
 refine zac hp zaj hc rfl fun K5 hK5 => ?_
 simp -dsimp -implicitDefEqProofs (disch := first | assumption | omega | (simp only [r_z, zaa, zab] <;> omega) | decide) only [r_r, ↓reduceIte, Nat.reduceEqDiff, Nat.reduceAdd, D.fix, Int.reduceToNat, Nat.reduceMul, Nat.reduceBNe, Nat.reduceBEq, zas, zax, zae, zaf, za5, zap, q0, q1, zb0]
 refine hK5 _ _ ?_
 refine zaq rfl (fun ht => ?_) (fun ht => ?_)
 ·cases ht
 ·refine zay (hK4 _ _ ?_)
  refine zac hp zaj hc rfl fun K6 hK6 => ?_
  simp -dsimp -implicitDefEqProofs (disch := first | assumption | omega | (simp only [r_z, zaa, zab] <;> omega) | decide) only [r_r, ↓reduceIte, Nat.reduceEqDiff, Nat.reduceAdd, D.fix, Int.reduceToNat, Nat.reduceMul, Nat.reduceBNe, Nat.reduceBEq, zas, zax, zae, zaf, za5, zap]
  refine hK6 _ _ ?_
  refine zam fun K7 hK7 => ?_
  refine zac hp zaj hc rfl fun K8 hK8 => ?_
  simp -dsimp -implicitDefEqProofs (disch := first | assumption | omega | (simp only [r_z, zaa, zab] <;> omega) | decide) only [r_r, ↓reduceIte, Nat.reduceEqDiff, Nat.reduceAdd, D.fix, Int.reduceToNat, Nat.reduceMul, Nat.reduceBNe, Nat.reduceBEq, zas, zax, zae, zaf, za5, zap, zb0]
  refine hK8 _ _ ?_
  refine zaz ?_
  refine za7 hp (fun τ' H' mm => ∃ (k : Nat), (k ≤ n.ins.length) ∧ mm = n.ins.length - k ∧ H' = [.cells (avs (zax n)), .cells [.d (iD (2 + n.ins.length))]] ∧ τ' = frL [(1, .op 0 0), (3, .op 1 0), (4, .d (iD (2 + n.ins.length + n.gates.length))), (5, .d (.val (.func (.func 40) #[] #[]))), (36, .d (zae n.ins)), (37, .d (iD n.ins.length)), (38, .d (iD k))]) (n.ins.length) ?_ ⟨0, Nat.zero_le _, rfl, rfl, rfl⟩ ?_
  ·refine Rt.trans (Rt.gc (keep := [0,1]) (by decide) (by decide) (by simp [fzH, gcH])) ?_
   refine Rt.end (by repeat (first | exact zak _ | refine zah ?_ (by first | rfl | (simp [r_f, zaa, zab]; done) | simp [r_f, zaa, zab, *]))) ?_
   first | rfl | (simp only [r_g, Nat.reduceAdd, ↓reduceIte, Nat.reduceEqDiff, zas, zax, zae, zaf, za5, zap]; first | done | rfl)
  rintro τ' H' mm ⟨k, hk, rfl, rfl, rfl⟩
  refine zac hp zaj hc rfl fun K9 hK9 => ?_
  simp -dsimp -implicitDefEqProofs (disch := first | assumption | omega | (simp only [r_z, zaa, zab] <;> omega) | decide) only [r_r, ↓reduceIte, Nat.reduceEqDiff, Nat.reduceAdd, D.fix, Int.reduceToNat, Nat.reduceMul, Nat.reduceBNe, Nat.reduceBEq, zas, zax, zae, zaf, za5, zap, zb0]
  refine hK9 _ _ ?_
  refine zam fun K10 hK10 => ?_
  refine zaq rfl (fun ht => ?_) (fun ht => ?_)
  ·have hlt : k < n.ins.length := by simp at ht; omega
   have hw := h.wi _ (zb3 hlt)
   have q2 : decide ((nth n.ins k).kind < 1) = false := decide_eq_false (by have := hw.k1; omega)
   have q3 : decide (4 < (nth n.ins k).kind) = false := decide_eq_false (by have := hw.k4; omega)
   refine zay (hK10 _ _ ?_)
   refine zam fun K11 hK11 => ?_
   refine zaz ?_
   refine zac hp zaj hc rfl fun K12 hK12 => ?_
   simp -dsimp -implicitDefEqProofs (disch := first | assumption | omega | (simp only [r_z, zaa, zab] <;> omega) | decide) only [r_r, ↓reduceIte, Nat.reduceEqDiff, Nat.reduceAdd, D.fix, Int.reduceToNat, Nat.reduceMul, Nat.reduceBNe, Nat.reduceBEq, zas, zax, zae, zaf, za5, zap, zca, za0, zb0]
   refine hK12 _ _ ?_
   refine zac hp zaj hc rfl fun K13 hK13 => ?_
   simp -dsimp -implicitDefEqProofs (disch := first | assumption | omega | (simp only [r_z, zaa, zab] <;> omega) | decide) only [r_r, ↓reduceIte, Nat.reduceEqDiff, Nat.reduceAdd, D.fix, Int.reduceToNat, Nat.reduceMul, Nat.reduceBNe, Nat.reduceBEq, zas, zax, zae, zaf, za5, zap, q2, q3, zb0]
   refine zb4 (je0 (nth n.ins k) hw.i0 hw.b0 hw.b7) rfl ?_
   simp -dsimp -implicitDefEqProofs (disch := first | assumption | omega | (simp only [r_z, zaa, zab] <;> omega) | decide) only [r_r, ↓reduceIte, Nat.reduceEqDiff, Nat.reduceAdd, D.fix, Int.reduceToNat, Nat.reduceMul, Nat.reduceBNe, Nat.reduceBEq, zas, zax, zae, zaf, za5, zap, q2, q3, zb0]
   refine hK13 _ _ ?_
   refine zaq rfl (fun ht => ?_) (fun ht => ?_)
   ·cases ht
   ·refine zay (hK11 _ _ ?_)
    refine zbo hp zaj hc rfl fun K14 hK14 => ?_
    simp -dsimp -implicitDefEqProofs (disch := first | assumption | omega | (simp only [r_z, zaa, zab] <;> omega) | decide) only [r_r, ↓reduceIte, Nat.reduceEqDiff, Nat.reduceAdd, D.fix, Int.reduceToNat, Nat.reduceMul, Nat.reduceBNe, Nat.reduceBEq, zas, zax, zae, zaf, za5, zap, zb0]
    refine hK14 _ _ ⟨_, _, _, ?_, ⟨k + 1, by omega, rfl, rfl, rfl⟩, ?_⟩
    ·first | omega | (simp only [List.length_cons]; omega) | (dsimp only; omega)
    ·refine Rt.trans (Rt.gc (keep := [0,1]) (by decide) (by decide) (by simp [fzH, gcH])) ?_
     refine Rt.end (by repeat (first | exact zak _ | refine zah ?_ (by first | rfl | (simp [r_f, zaa, zab]; done) | simp [r_f, zaa, zab, *]))) ?_
     first | rfl | (simp only [r_g, Nat.reduceAdd, ↓reduceIte, Nat.reduceEqDiff, zas, zax, zae, zaf, za5, zap]; first | done | rfl)
  ·refine zbj (hK7 _ _ ?_)
   refine zam fun K15 hK15 => ?_
   refine zac hp zaj hc rfl fun K16 hK16 => ?_
   simp -dsimp -implicitDefEqProofs (disch := first | assumption | omega | (simp only [r_z, zaa, zab] <;> omega) | decide) only [r_r, ↓reduceIte, Nat.reduceEqDiff, Nat.reduceAdd, D.fix, Int.reduceToNat, Nat.reduceMul, Nat.reduceBNe, Nat.reduceBEq, zas, zax, zae, zaf, za5, zap, zb0]
   refine hK16 _ _ ?_
   refine zaz ?_
   refine za7 hp (fun τ' H' mm => ∃ (k : Nat), (k ≤ n.gates.length) ∧ mm = n.gates.length - k ∧ H' = [.cells (avs (zax n)), .cells [.d (iD (2 + n.ins.length))]] ∧ τ' = frL [(1, .op 0 0), (3, .op 1 0), (4, .d (iD (2 + n.ins.length + n.gates.length))), (5, .d (.val (.func (.func 40) #[] #[]))), (58, .d (zaf n.gates)), (59, .d (iD n.gates.length)), (60, .d (iD k))]) (n.gates.length) ?_ ⟨0, Nat.zero_le _, rfl, rfl, rfl⟩ ?_
   ·refine Rt.trans (Rt.gc (keep := [0,1]) (by decide) (by decide) (by simp [fzH, gcH])) ?_
    refine Rt.end (by repeat (first | exact zak _ | refine zah ?_ (by first | rfl | (simp [r_f, zaa, zab]; done) | simp [r_f, zaa, zab, *]))) ?_
    first | rfl | (simp only [r_g, Nat.reduceAdd, ↓reduceIte, Nat.reduceEqDiff, zas, zax, zae, zaf, za5, zap]; first | done | rfl)
   rintro τ' H' mm ⟨k, hk, rfl, rfl, rfl⟩
   refine zac hp zaj hc rfl fun K17 hK17 => ?_
   simp -dsimp -implicitDefEqProofs (disch := first | assumption | omega | (simp only [r_z, zaa, zab] <;> omega) | decide) only [r_r, ↓reduceIte, Nat.reduceEqDiff, Nat.reduceAdd, D.fix, Int.reduceToNat, Nat.reduceMul, Nat.reduceBNe, Nat.reduceBEq, zas, zax, zae, zaf, za5, zap, zb0]
   refine hK17 _ _ ?_
   refine zam fun K18 hK18 => ?_
   refine zaq rfl (fun ht => ?_) (fun ht => ?_)
   ·have hlt : k < n.gates.length := by simp at ht; omega
    have hg := jj7 h.g2 hlt
    have hv := h.gv _ (zb3 hlt)
    have hu := jma hg
    have hr := jr6 hg.o1 hg.o2 hv
    have hul := jg6 hg.o1 hg.o2
    have hu3 : (zuf (nth n.gates k)).length ≤ maxLen := by unfold zuf; rw [List.length_take]; simp; unfold maxLen; omega
    have hr3 : (zzl (nth n.gates k)).length ≤ maxLen := by unfold zzl; rw [List.length_drop]; simp; unfold maxLen; omega
    have hco := zzn (zuf (nth n.gates k)) (2 + n.ins.length) k (by omega) (by omega) hu3
    rw [show ((2 : Int) + n.ins.length + k) = ((2 + n.ins.length + k : Nat) : Int) by omega, hu] at hco
    have hcz := zzo (zzl (nth n.gates k)) hr3
    rw [hr] at hcz
    have q4 : decide ((nth n.gates k).n < 0) = false := decide_eq_false (by have := hg.n0; omega)
    have q5 : decide (63 < (nth n.gates k).n) = false := decide_eq_false (by have := hv.m; omega)
    refine zay (hK18 _ _ ?_)
    refine zam fun K19 hK19 => ?_
    refine zaz ?_
    refine zac hp zaj hc rfl fun K20 hK20 => ?_
    simp -dsimp -implicitDefEqProofs (disch := first | assumption | omega | (simp only [r_z, zaa, zab] <;> omega) | decide) only [r_r, ↓reduceIte, Nat.reduceEqDiff, Nat.reduceAdd, D.fix, Int.reduceToNat, Nat.reduceMul, Nat.reduceBNe, Nat.reduceBEq, zas, zax, zae, zaf, za5, zap, zav, zaw, zb0]
    refine hK20 _ _ ?_
    refine zac hp zaj hc rfl fun K21 hK21 => ?_
    simp -dsimp -implicitDefEqProofs (disch := first | assumption | omega | (simp only [r_z, zaa, zab] <;> omega) | decide) only [r_r, ↓reduceIte, Nat.reduceEqDiff, Nat.reduceAdd, D.fix, Int.reduceToNat, Nat.reduceMul, Nat.reduceBNe, Nat.reduceBEq, zas, zax, zae, zaf, za5, zap, zb0]
    refine zb4 (zzm (nth n.gates k) hg.o1 hg.o2) rfl ?_
    simp -dsimp -implicitDefEqProofs (disch := first | assumption | omega | (simp only [r_z, zaa, zab] <;> omega) | decide) only [r_r, ↓reduceIte, Nat.reduceEqDiff, Nat.reduceAdd, D.fix, Int.reduceToNat, Nat.reduceMul, Nat.reduceBNe, Nat.reduceBEq, zas, zax, zae, zaf, za5, zap, zb0]
    refine hK21 _ _ ?_
    refine zac hp zaj hc rfl fun K22 hK22 => ?_
    simp -dsimp -implicitDefEqProofs (disch := first | assumption | omega | (simp only [r_z, zaa, zab] <;> omega) | decide) only [r_r, ↓reduceIte, Nat.reduceEqDiff, Nat.reduceAdd, D.fix, Int.reduceToNat, Nat.reduceMul, Nat.reduceBNe, Nat.reduceBEq, zas, zax, zae, zaf, za5, zap]
    refine hK22 _ _ ?_
    refine zam fun K23 hK23 => ?_
    refine zac hp zaj hc rfl fun K24 hK24 => ?_
    simp -dsimp -implicitDefEqProofs (disch := first | assumption | omega | (simp only [r_z, zaa, zab] <;> omega) | decide) only [r_r, ↓reduceIte, Nat.reduceEqDiff, Nat.reduceAdd, D.fix, Int.reduceToNat, Nat.reduceMul, Nat.reduceBNe, Nat.reduceBEq, zas, zax, zae, zaf, za5, zap, hul, zb0]
    refine zfk (hco) ?_ ?_
    ·simp (disch := first | assumption | omega | (simp only [r_z, zaa, zab] <;> omega) | decide) only [r_c, Nat.reduceAdd, D.fix, ↓reduceIte, Nat.reduceEqDiff, zas, zax, zae, zaf, za5, zap]
    simp -dsimp -implicitDefEqProofs (disch := first | assumption | omega | (simp only [r_z, zaa, zab] <;> omega) | decide) only [r_r, ↓reduceIte, Nat.reduceEqDiff, Nat.reduceAdd, D.fix, Int.reduceToNat, Nat.reduceMul, Nat.reduceBNe, Nat.reduceBEq, zas, zax, zae, zaf, za5, zap, hul, zb0]
    refine zb4 (hcz) rfl ?_
    simp -dsimp -implicitDefEqProofs (disch := first | assumption | omega | (simp only [r_z, zaa, zab] <;> omega) | decide) only [r_r, ↓reduceIte, Nat.reduceEqDiff, Nat.reduceAdd, D.fix, Int.reduceToNat, Nat.reduceMul, Nat.reduceBNe, Nat.reduceBEq, zas, zax, zae, zaf, za5, zap, hul, zb0]
    refine hK24 _ _ ?_
    refine zaq rfl (fun ht => ?_) (fun ht => ?_)
    ·cases ht
    ·refine zay (hK23 _ _ ?_)
     refine zac hp zaj hc rfl fun K25 hK25 => ?_
     have hJ25 : ∀ τ' H', (∃ τ1 H1, H1 = [.cells (avs (zax n)), .cells [.d (iD (2 + n.ins.length))]] ∧ τ1 = frL [(1, .op 0 0), (3, .op 1 0), (4, .d (iD (2 + n.ins.length + n.gates.length))), (5, .d (.val (.func (.func 40) #[] #[]))), (58, .d (zaf n.gates)), (59, .d (iD n.gates.length)), (60, .d (iD k)), (100, .d (oD false))] ∧ Rt [] τ' H' τ1 H1) → K25 τ' H' := by
      rintro τ' H' ⟨_, _, rfl, rfl, hrt⟩
      refine hK25 _ _ (zb2 hp hrt ?_)
      clear hrt
      refine zaq rfl (fun ht => ?_) (fun ht => ?_)
      ·cases ht
      ·refine zay (hK19 _ _ ?_)
       refine zbo hp zaj hc rfl fun K26 hK26 => ?_
       simp -dsimp -implicitDefEqProofs (disch := first | assumption | omega | (simp only [r_z, zaa, zab] <;> omega) | decide) only [r_r, ↓reduceIte, Nat.reduceEqDiff, Nat.reduceAdd, D.fix, Int.reduceToNat, Nat.reduceMul, Nat.reduceBNe, Nat.reduceBEq, zas, zax, zae, zaf, za5, zap, zb0]
       refine hK26 _ _ ⟨_, _, _, ?_, ⟨k + 1, by omega, rfl, rfl, rfl⟩, ?_⟩
       ·first | omega | (simp only [List.length_cons]; omega) | (dsimp only; omega)
       ·refine Rt.trans (Rt.gc (keep := [0,1]) (by decide) (by decide) (by simp [fzH, gcH])) ?_
        refine Rt.end (by repeat (first | exact zak _ | refine zah ?_ (by first | rfl | (simp [r_f, zaa, zab]; done) | simp [r_f, zaa, zab, *]))) ?_
        first | rfl | (simp only [r_g, Nat.reduceAdd, ↓reduceIte, Nat.reduceEqDiff, zas, zax, zae, zaf, za5, zap]; first | done | rfl)
     rcases (show (nth n.gates k).op ≠ 7 ∨ ((nth n.gates k).op = 7 ∧ ¬ 0 < (nth n.gates k).n) ∨ ((nth n.gates k).op = 7 ∧ 0 < (nth n.gates k).n) by omega) with q7 | ⟨q7, q8⟩ | ⟨q7, q8⟩
     ·have q6 : decide (0 < (nth n.gates k).n) = false := decide_eq_false (by have := hv.n q7; omega)
      have q9 := q6
      simp -dsimp -implicitDefEqProofs (disch := first | assumption | omega | (simp only [r_z, zaa, zab] <;> omega) | decide) only [r_r, ↓reduceIte, Nat.reduceEqDiff, Nat.reduceAdd, D.fix, Int.reduceToNat, Nat.reduceMul, Nat.reduceBNe, Nat.reduceBEq, zas, zax, zae, zaf, za5, zap, q4, q5, q6, q9, zb0]
      refine (hJ25 _ _ ⟨_, _, rfl, rfl, ?_⟩)
      refine Rt.trans (Rt.gc (keep := [0,1]) (by decide) (by decide) (by simp [fzH, gcH])) ?_
      refine Rt.end (by repeat (first | exact zak _ | refine zah ?_ (by first | rfl | (simp [r_f, zaa, zab]; done) | simp [r_f, zaa, zab, *]))) ?_
      first | rfl | (simp only [r_g, Nat.reduceAdd, ↓reduceIte, Nat.reduceEqDiff, zas, zax, zae, zaf, za5, zap]; first | done | rfl)
     ·have q6 : decide (0 < (nth n.gates k).n) = false := decide_eq_false q8
      have q9 := q6
      simp -dsimp -implicitDefEqProofs (disch := first | assumption | omega | (simp only [r_z, zaa, zab] <;> omega) | decide) only [r_r, ↓reduceIte, Nat.reduceEqDiff, Nat.reduceAdd, D.fix, Int.reduceToNat, Nat.reduceMul, Nat.reduceBNe, Nat.reduceBEq, zas, zax, zae, zaf, za5, zap, q4, q5, q6, q9, zb0]
      refine (hJ25 _ _ ⟨_, _, rfl, rfl, ?_⟩)
      refine Rt.trans (Rt.gc (keep := [0,1]) (by decide) (by decide) (by simp [fzH, gcH])) ?_
      refine Rt.end (by repeat (first | exact zak _ | refine zah ?_ (by first | rfl | (simp [r_f, zaa, zab]; done) | simp [r_f, zaa, zab, *]))) ?_
      first | rfl | (simp only [r_g, Nat.reduceAdd, ↓reduceIte, Nat.reduceEqDiff, zas, zax, zae, zaf, za5, zap]; first | done | rfl)
     ·have q6 : decide (0 < (nth n.gates k).n) = true := decide_eq_true q8
      have q9 : ((nth n.gates k).op != 7) = false := by rw [q7]; rfl
      simp -dsimp -implicitDefEqProofs (disch := first | assumption | omega | (simp only [r_z, zaa, zab] <;> omega) | decide) only [r_r, ↓reduceIte, Nat.reduceEqDiff, Nat.reduceAdd, D.fix, Int.reduceToNat, Nat.reduceMul, Nat.reduceBNe, Nat.reduceBEq, zas, zax, zae, zaf, za5, zap, q4, q5, q6, q9, zb0]
      refine (hJ25 _ _ ⟨_, _, rfl, rfl, ?_⟩)
      refine Rt.trans (Rt.gc (keep := [0,1]) (by decide) (by decide) (by simp [fzH, gcH])) ?_
      refine Rt.end (by repeat (first | exact zak _ | refine zah ?_ (by first | rfl | (simp [r_f, zaa, zab]; done) | simp [r_f, zaa, zab, *]))) ?_
      first | rfl | (simp only [r_g, Nat.reduceAdd, ↓reduceIte, Nat.reduceEqDiff, zas, zax, zae, zaf, za5, zap]; first | done | rfl)
   ·refine zbj (hK15 _ _ ?_)
    refine zam fun K27 hK27 => ?_
    refine zac hp zaj hc rfl fun K28 hK28 => ?_
    simp -dsimp -implicitDefEqProofs (disch := first | assumption | omega | (simp only [r_z, zaa, zab] <;> omega) | decide) only [r_r, ↓reduceIte, Nat.reduceEqDiff, Nat.reduceAdd, D.fix, Int.reduceToNat, Nat.reduceMul, Nat.reduceBNe, Nat.reduceBEq, zas, zax, zae, zaf, za5, zap, zb0]
    refine hK28 _ _ ?_
    refine zaz ?_
    refine za7 hp (fun τ' H' mm => ∃ (k : Nat), (k ≤ n.out.length) ∧ mm = n.out.length - k ∧ H' = [.cells (avs (zax n))] ∧ τ' = frL [(1, .op 0 0), (4, .d (iD (2 + n.ins.length + n.gates.length))), (5, .d (.val (.func (.func 40) #[] #[]))), (103, .d (zae n.out)), (104, .d (iD n.out.length)), (105, .d (iD k))]) (n.out.length) ?_ ⟨0, Nat.zero_le _, rfl, rfl, rfl⟩ ?_
    ·refine Rt.trans (Rt.gc (keep := [0]) (by decide) (by decide) (by simp [fzH, gcH])) ?_
     refine Rt.end (by repeat (first | exact zak _ | refine zah ?_ (by first | rfl | (simp [r_f, zaa, zab]; done) | simp [r_f, zaa, zab, *]))) ?_
     first | rfl | (simp only [r_g, Nat.reduceAdd, ↓reduceIte, Nat.reduceEqDiff, zas, zax, zae, zaf, za5, zap]; first | done | rfl)
    rintro τ' H' mm ⟨k, hk, rfl, rfl, rfl⟩
    refine zac hp zaj hc rfl fun K29 hK29 => ?_
    simp -dsimp -implicitDefEqProofs (disch := first | assumption | omega | (simp only [r_z, zaa, zab] <;> omega) | decide) only [r_r, ↓reduceIte, Nat.reduceEqDiff, Nat.reduceAdd, D.fix, Int.reduceToNat, Nat.reduceMul, Nat.reduceBNe, Nat.reduceBEq, zas, zax, zae, zaf, za5, zap, zb0]
    refine hK29 _ _ ?_
    refine zam fun K30 hK30 => ?_
    refine zaq rfl (fun ht => ?_) (fun ht => ?_)
    ·have hlt : k < n.out.length := by simp at ht; omega
     have hw := h.wo _ (zb3 hlt)
     have hdk := h.d2 k (by omega)
     have q2 : decide (nth n.drive k < 0) = false := decide_eq_false (by omega)
     have q3 : decide (2 + (n.ins.length : Int) + n.gates.length ≤ nth n.drive k) = false := decide_eq_false (by omega)
     refine zay (hK30 _ _ ?_)
     refine zam fun K31 hK31 => ?_
     refine zaz ?_
     refine zac hp zaj hc rfl fun K32 hK32 => ?_
     simp -dsimp -implicitDefEqProofs (disch := first | assumption | omega | (simp only [r_z, zaa, zab] <;> omega) | decide) only [r_r, ↓reduceIte, Nat.reduceEqDiff, Nat.reduceAdd, D.fix, Int.reduceToNat, Nat.reduceMul, Nat.reduceBNe, Nat.reduceBEq, zas, zax, zae, zaf, za5, zap, zca, za0, zb0]
     refine hK32 _ _ ?_
     refine zac hp zaj hc rfl fun K33 hK33 => ?_
     rcases hw.k with q | ⟨q, q'⟩
     ·have q4 : ((nth n.out k).kind != 1) = false := by rw [q]; rfl
      have q5 := q4
      have q6 := q4
      simp -dsimp -implicitDefEqProofs (disch := first | assumption | omega | (simp only [r_z, zaa, zab] <;> omega) | decide) only [r_r, ↓reduceIte, Nat.reduceEqDiff, Nat.reduceAdd, D.fix, Int.reduceToNat, Nat.reduceMul, Nat.reduceBNe, Nat.reduceBEq, zas, zax, zae, zaf, za5, zap, zcc, zb0]
      refine zb4 (je0 (nth n.out k) hw.i0 hw.b0 hw.b7) rfl ?_
      simp -dsimp -implicitDefEqProofs (disch := first | assumption | omega | (simp only [r_z, zaa, zab] <;> omega) | decide) only [r_r, ↓reduceIte, Nat.reduceEqDiff, Nat.reduceAdd, D.fix, Int.reduceToNat, Nat.reduceMul, Nat.reduceBNe, Nat.reduceBEq, zas, zax, zae, zaf, za5, zap, zcc, q2, q3, q4, q5, q6, zcc, zb0]
      refine hK33 _ _ ?_
      refine zaq rfl (fun ht => ?_) (fun ht => ?_)
      ·cases ht
      ·refine zay (hK31 _ _ ?_)
       refine zbo hp zaj hc rfl fun K34 hK34 => ?_
       simp -dsimp -implicitDefEqProofs (disch := first | assumption | omega | (simp only [r_z, zaa, zab] <;> omega) | decide) only [r_r, ↓reduceIte, Nat.reduceEqDiff, Nat.reduceAdd, D.fix, Int.reduceToNat, Nat.reduceMul, Nat.reduceBNe, Nat.reduceBEq, zas, zax, zae, zaf, za5, zap, zb0]
       refine hK34 _ _ ⟨_, _, _, ?_, ⟨k + 1, by omega, rfl, rfl, rfl⟩, ?_⟩
       ·first | omega | (simp only [List.length_cons]; omega) | (dsimp only; omega)
       ·refine Rt.trans (Rt.gc (keep := [0]) (by decide) (by decide) (by simp [fzH, gcH])) ?_
        refine Rt.end (by repeat (first | exact zak _ | refine zah ?_ (by first | rfl | (simp [r_f, zaa, zab]; done) | simp [r_f, zaa, zab, *]))) ?_
        first | rfl | (simp only [r_g, Nat.reduceAdd, ↓reduceIte, Nat.reduceEqDiff, zas, zax, zae, zaf, za5, zap]; first | done | rfl)
     ·have q4 : decide ((nth n.out k).kind < 5) = false := decide_eq_false (by omega)
      have q5 : decide (10 < (nth n.out k).kind) = false := decide_eq_false (by omega)
      have q6 : ((nth n.out k).kind != 1) = true := by simp; omega
      simp -dsimp -implicitDefEqProofs (disch := first | assumption | omega | (simp only [r_z, zaa, zab] <;> omega) | decide) only [r_r, ↓reduceIte, Nat.reduceEqDiff, Nat.reduceAdd, D.fix, Int.reduceToNat, Nat.reduceMul, Nat.reduceBNe, Nat.reduceBEq, zas, zax, zae, zaf, za5, zap, zcc, zb0]
      refine zb4 (je0 (nth n.out k) hw.i0 hw.b0 hw.b7) rfl ?_
      simp -dsimp -implicitDefEqProofs (disch := first | assumption | omega | (simp only [r_z, zaa, zab] <;> omega) | decide) only [r_r, ↓reduceIte, Nat.reduceEqDiff, Nat.reduceAdd, D.fix, Int.reduceToNat, Nat.reduceMul, Nat.reduceBNe, Nat.reduceBEq, zas, zax, zae, zaf, za5, zap, zcc, q2, q3, q4, q5, q6, zcc, zb0]
      refine hK33 _ _ ?_
      refine zaq rfl (fun ht => ?_) (fun ht => ?_)
      ·cases ht
      ·refine zay (hK31 _ _ ?_)
       refine zbo hp zaj hc rfl fun K35 hK35 => ?_
       simp -dsimp -implicitDefEqProofs (disch := first | assumption | omega | (simp only [r_z, zaa, zab] <;> omega) | decide) only [r_r, ↓reduceIte, Nat.reduceEqDiff, Nat.reduceAdd, D.fix, Int.reduceToNat, Nat.reduceMul, Nat.reduceBNe, Nat.reduceBEq, zas, zax, zae, zaf, za5, zap, zb0]
       refine hK35 _ _ ⟨_, _, _, ?_, ⟨k + 1, by omega, rfl, rfl, rfl⟩, ?_⟩
       ·first | omega | (simp only [List.length_cons]; omega) | (dsimp only; omega)
       ·refine Rt.trans (Rt.gc (keep := [0]) (by decide) (by decide) (by simp [fzH, gcH])) ?_
        refine Rt.end (by repeat (first | exact zak _ | refine zah ?_ (by first | rfl | (simp [r_f, zaa, zab]; done) | simp [r_f, zaa, zab, *]))) ?_
        first | rfl | (simp only [r_g, Nat.reduceAdd, ↓reduceIte, Nat.reduceEqDiff, zas, zax, zae, zaf, za5, zap]; first | done | rfl)
    ·refine zbj (hK27 _ _ ?_)
     refine zac hp zaj hc rfl fun K36 hK36 => ?_
     simp -dsimp -implicitDefEqProofs (disch := first | assumption | omega | (simp only [r_z, zaa, zab] <;> omega) | decide) only [r_r, ↓reduceIte, Nat.reduceEqDiff, Nat.reduceAdd, D.fix, Int.reduceToNat, Nat.reduceMul, Nat.reduceBNe, Nat.reduceBEq, zas, zax, zae, zaf, za5, zap]
     refine hK36 _ _ ?_
     refine za4 ?_
     show closeA _ _ = _
     simp (disch := first | assumption | omega | (simp only [r_z, zaa, zab] <;> omega) | decide) only [r_c, Nat.reduceAdd, D.fix, ↓reduceIte, Nat.reduceEqDiff, zas, zax, zae, zaf, za5, zap]
theorem jme {o : Int} (h1 : 1 ≤ o) (h2 : o ≤ 7) : za9 Try.prog 45 [iD o] (.d (iD (arN o : Nat))) := by
 rcases op7 h1 h2 with h | h | h | h | h | h | h <;> (subst h; exact zb6 (n := 80) mixed zaj (by kernel_rfl))
theorem znt (n m : Int) (h0 : 0 ≤ n) (h1 : n < m) : za9 Try.prog 46 [oD true, iD n, iD m] (.d (oD true)) := by
 have q0 : decide (0 ≤ n) = true := decide_eq_true h0
 have q1 : decide (n < m) = true := decide_eq_true h1
 refine zbc (fn := Try.f46) (by kernel_rfl) Try.func46 rfl (Nat.le_of_ble_eq_true rfl) fun c hc hp => ?_
 refine zbf (τ' := frL [(0, .d (oD true)), (1, .d (iD n)), (2, .d (iD m))]) (by repeat (first | exact zak _ | refine zah ?_ (by first | rfl | (simp [r_f]; done) | simp [r_f, *]))) ?_
 refine zac hp zaj hc rfl fun K1 hK1 => ?_
 simp -dsimp -implicitDefEqProofs (disch := first | assumption | omega | (simp only [r_z] <;> omega) | decide) only [r_r, ↓reduceIte, Nat.reduceEqDiff, Nat.reduceAdd, D.fix, Int.reduceToNat, Nat.reduceMul, Nat.reduceBNe, Nat.reduceBEq]
 refine hK1 _ _ ?_
 refine zam fun K2 hK2 => ?_
 refine zac hp zaj hc rfl fun K3 hK3 => ?_
 simp -dsimp -implicitDefEqProofs (disch := first | assumption | omega | (simp only [r_z] <;> omega) | decide) only [r_r, ↓reduceIte, Nat.reduceEqDiff, Nat.reduceAdd, D.fix, Int.reduceToNat, Nat.reduceMul, Nat.reduceBNe, Nat.reduceBEq]
 refine hK3 _ _ ?_
 refine zaq rfl (fun ht => ?_) (fun ht => ?_)
 ·refine zac hp zaj hc rfl fun K4 hK4 => ?_
  simp -dsimp -implicitDefEqProofs (disch := first | assumption | omega | (simp only [r_z] <;> omega) | decide) only [r_r, ↓reduceIte, Nat.reduceEqDiff, Nat.reduceAdd, D.fix, Int.reduceToNat, Nat.reduceMul, Nat.reduceBNe, Nat.reduceBEq, q0, q1, zb0]
  refine hK4 _ _ ?_
  refine za4 ?_
  show closeA _ _ = _
  simp (disch := first | assumption | omega | (simp only [r_z] <;> omega) | decide) only [r_c, Nat.reduceAdd, D.fix, ↓reduceIte, Nat.reduceEqDiff]
 ·cases ht
theorem je1 (m : Int) : za9 Try.prog 46 [oD false, iD 0, iD m] (.d (oD true)) := by
 refine zbc (fn := Try.f46) (by kernel_rfl) Try.func46 rfl (Nat.le_of_ble_eq_true rfl) fun c hc hp => ?_
 refine zbf (τ' := frL [(0, .d (oD false)), (1, .d (iD 0)), (2, .d (iD m))]) (by repeat (first | exact zak _ | refine zah ?_ (by first | rfl | (simp [r_f]; done) | simp [r_f, *]))) ?_
 refine zac hp zaj hc rfl fun K1 hK1 => ?_
 simp -dsimp -implicitDefEqProofs (disch := first | assumption | omega | (simp only [r_z] <;> omega) | decide) only [r_r, ↓reduceIte, Nat.reduceEqDiff, Nat.reduceAdd, D.fix, Int.reduceToNat, Nat.reduceMul, Nat.reduceBNe, Nat.reduceBEq]
 refine hK1 _ _ ?_
 refine zam fun K2 hK2 => ?_
 refine zac hp zaj hc rfl fun K3 hK3 => ?_
 simp -dsimp -implicitDefEqProofs (disch := first | assumption | omega | (simp only [r_z] <;> omega) | decide) only [r_r, ↓reduceIte, Nat.reduceEqDiff, Nat.reduceAdd, D.fix, Int.reduceToNat, Nat.reduceMul, Nat.reduceBNe, Nat.reduceBEq]
 refine hK3 _ _ ?_
 refine zaq rfl (fun ht => ?_) (fun ht => ?_)
 ·cases ht
 ·refine zay (hK2 _ _ ?_)
  refine zac hp zaj hc rfl fun K4 hK4 => ?_
  simp -dsimp -implicitDefEqProofs (disch := first | assumption | omega | (simp only [r_z] <;> omega) | decide) only [r_r, ↓reduceIte, Nat.reduceEqDiff, Nat.reduceAdd, D.fix, Int.reduceToNat, Nat.reduceMul, Nat.reduceBNe, Nat.reduceBEq, beq_self_eq_true, zb0]
  refine hK4 _ _ ?_
  refine za4 ?_
  show closeA _ _ = _
  simp (disch := first | assumption | omega | (simp only [r_z] <;> omega) | decide) only [r_c, Nat.reduceAdd, D.fix, ↓reduceIte, Nat.reduceEqDiff]
theorem znu {u : Bool} {n m : Int} (h1 : u = true → 0 ≤ n ∧ n < m) (h2 : u = false → n = 0) : za9 Try.prog 46 [oD u, iD n, iD m] (.d (oD true)) := by
 cases u with
 | true => exact znt n m (h1 rfl).1 (h1 rfl).2
 | false => rw [h2 rfl]; exact je1 m
theorem jmf (n : Net) (h : NetV n) : za9 Try.prog 26 [zas n] (.d (oD true)) := by
 have hlen := h.len
 have hd0 := h.d0
 have hdl := h.dl
 have q0 : decide ((600 : Int) < 2 + n.ins.length + n.gates.length) = false := decide_eq_false (by omega)
 have q1 : ((n.out.length : Int) != n.drive.length) = false := by simp; omega
 have hno := zqw n (by omega) (by omega)
 refine zbc (fn := Try.f26) (by kernel_rfl) Try.func26 rfl (Nat.le_of_ble_eq_true rfl) fun c hc hp => ?_
 refine zbf (τ' := frL [(0, .d (zas n))]) (by repeat (first | exact zak _ | refine zah ?_ (by first | rfl | (simp [r_f, zaa, zab]; done) | simp [r_f, zaa, zab, *]))) ?_
 refine zac hp zaj hc rfl fun K1 hK1 => ?_
 simp -dsimp -implicitDefEqProofs (disch := first | assumption | omega | (simp only [r_z, zaa, zab] <;> omega) | decide) only [r_r, ↓reduceIte, Nat.reduceEqDiff, Nat.reduceAdd, D.fix, Int.reduceToNat, Nat.reduceMul, Nat.reduceBNe, Nat.reduceBEq, zas, zax, zae, zaf, za5, zap, zb0]
 refine hK1 _ _ ?_
 refine zam fun K2 hK2 => ?_
 refine zac hp zaj hc rfl fun K3 hK3 => ?_
 simp -dsimp -implicitDefEqProofs (disch := first | assumption | omega | (simp only [r_z, zaa, zab] <;> omega) | decide) only [r_r, ↓reduceIte, Nat.reduceEqDiff, Nat.reduceAdd, D.fix, Int.reduceToNat, Nat.reduceMul, Nat.reduceBNe, Nat.reduceBEq, zas, zax, zae, zaf, za5, zap, q0, q1, zb0]
 refine zb4 (hno) rfl ?_
 simp -dsimp -implicitDefEqProofs (disch := first | assumption | omega | (simp only [r_z, zaa, zab] <;> omega) | decide) only [r_r, ↓reduceIte, Nat.reduceEqDiff, Nat.reduceAdd, D.fix, Int.reduceToNat, Nat.reduceMul, Nat.reduceBNe, Nat.reduceBEq, zas, zax, zae, zaf, za5, zap, q0, q1, zb0]
 refine hK3 _ _ ?_
 refine zaq rfl (fun ht => ?_) (fun ht => ?_)
 ·cases ht
 ·refine zay (hK2 _ _ ?_)
  refine zam fun K4 hK4 => ?_
  refine zac hp zaj hc rfl fun K5 hK5 => ?_
  simp -dsimp -implicitDefEqProofs (disch := first | assumption | omega | (simp only [r_z, zaa, zab] <;> omega) | decide) only [r_r, ↓reduceIte, Nat.reduceEqDiff, Nat.reduceAdd, D.fix, Int.reduceToNat, Nat.reduceMul, Nat.reduceBNe, Nat.reduceBEq, zas, zax, zae, zaf, za5, zap]
  refine hK5 _ _ ?_
  refine zaz ?_
  refine za7 hp (fun τ' H' mm => ∃ (k : Nat), (k ≤ n.ins.length) ∧ mm = n.ins.length - k ∧ H' = [.cells (avs (zax n))] ∧ τ' = frL [(1, .op 0 0), (3, .d (iD k))]) (n.ins.length) ?_ ⟨0, Nat.zero_le _, rfl, rfl, rfl⟩ ?_
  ·refine Rt.end (by repeat (first | exact zak _ | refine zah ?_ (by first | rfl | (simp [r_f, zaa, zab]; done) | simp [r_f, zaa, zab, *]))) ?_
   first | rfl | (simp only [r_g, Nat.reduceAdd, ↓reduceIte, Nat.reduceEqDiff, zas, zax, zae, zaf, za5, zap]; first | done | rfl)
  rintro τ' H' mm ⟨k, hk, rfl, rfl, rfl⟩
  refine zam fun K6 hK6 => ?_
  refine zac hp zaj hc rfl fun K7 hK7 => ?_
  simp -dsimp -implicitDefEqProofs (disch := first | assumption | omega | (simp only [r_z, zaa, zab] <;> omega) | decide) only [r_r, ↓reduceIte, Nat.reduceEqDiff, Nat.reduceAdd, D.fix, Int.reduceToNat, Nat.reduceMul, Nat.reduceBNe, Nat.reduceBEq, zas, zax, zae, zaf, za5, zap, zb0]
  refine hK7 _ _ ?_
  refine zaq rfl (fun ht => ?_) (fun ht => ?_)
  ·have hlt : k < n.ins.length := by simp at ht; omega
   have hw := h.wi _ (zb3 hlt)
   have q2 : decide ((nth n.ins k).kind < 1) = false := decide_eq_false (by have := hw.k1; omega)
   have q3 : decide (4 < (nth n.ins k).kind) = false := decide_eq_false (by have := hw.k4; omega)
   have q4 : decide ((nth n.ins k).i < 0) = false := decide_eq_false (by have := hw.i0; omega)
   have q5 : decide ((nth n.ins k).bit < 0) = false := decide_eq_false (by have := hw.b0; omega)
   have q6 : decide (7 < (nth n.ins k).bit) = false := decide_eq_false (by have := hw.b7; omega)
   refine zay (hK6 _ _ ?_)
   refine zam fun K8 hK8 => ?_
   refine zaz ?_
   refine zac hp zaj hc rfl fun K9 hK9 => ?_
   simp -dsimp -implicitDefEqProofs (disch := first | assumption | omega | (simp only [r_z, zaa, zab] <;> omega) | decide) only [r_r, ↓reduceIte, Nat.reduceEqDiff, Nat.reduceAdd, D.fix, Int.reduceToNat, Nat.reduceMul, Nat.reduceBNe, Nat.reduceBEq, zas, zax, zae, zaf, za5, zap, zca, za0, zb0]
   refine hK9 _ _ ?_
   refine zac hp zaj hc rfl fun K10 hK10 => ?_
   simp -dsimp -implicitDefEqProofs (disch := first | assumption | omega | (simp only [r_z, zaa, zab] <;> omega) | decide) only [r_r, ↓reduceIte, Nat.reduceEqDiff, Nat.reduceAdd, D.fix, Int.reduceToNat, Nat.reduceMul, Nat.reduceBNe, Nat.reduceBEq, zas, zax, zae, zaf, za5, zap, q2, q3, q4, q5, q6, zb0]
   refine hK10 _ _ ?_
   refine zaq rfl (fun ht => ?_) (fun ht => ?_)
   ·cases ht
   ·refine zay (hK8 _ _ ?_)
    refine zbo hp zaj hc rfl fun K11 hK11 => ?_
    simp -dsimp -implicitDefEqProofs (disch := first | assumption | omega | (simp only [r_z, zaa, zab] <;> omega) | decide) only [r_r, ↓reduceIte, Nat.reduceEqDiff, Nat.reduceAdd, D.fix, Int.reduceToNat, Nat.reduceMul, Nat.reduceBNe, Nat.reduceBEq, zas, zax, zae, zaf, za5, zap, zb0]
    refine hK11 _ _ ⟨_, _, _, ?_, ⟨k + 1, by omega, rfl, rfl, rfl⟩, ?_⟩
    ·first | omega | (simp only [List.length_cons]; omega) | (dsimp only; omega)
    ·refine Rt.trans (Rt.gc (keep := [0]) (by decide) (by decide) (by simp [fzH, gcH])) ?_
     refine Rt.end (by repeat (first | exact zak _ | refine zah ?_ (by first | rfl | (simp [r_f, zaa, zab]; done) | simp [r_f, zaa, zab, *]))) ?_
     first | rfl | (simp only [r_g, Nat.reduceAdd, ↓reduceIte, Nat.reduceEqDiff, zas, zax, zae, zaf, za5, zap]; first | done | rfl)
  ·refine zbj (hK4 _ _ ?_)
   refine zam fun K12 hK12 => ?_
   refine zac hp zaj hc rfl fun K13 hK13 => ?_
   simp -dsimp -implicitDefEqProofs (disch := first | assumption | omega | (simp only [r_z, zaa, zab] <;> omega) | decide) only [r_r, ↓reduceIte, Nat.reduceEqDiff, Nat.reduceAdd, D.fix, Int.reduceToNat, Nat.reduceMul, Nat.reduceBNe, Nat.reduceBEq, zas, zax, zae, zaf, za5, zap]
   refine hK13 _ _ ?_
   refine zaz ?_
   refine za7 hp (fun τ' H' mm => ∃ (k : Nat), (k ≤ n.gates.length) ∧ mm = n.gates.length - k ∧ H' = [.cells (avs (zax n))] ∧ τ' = frL [(1, .op 0 0), (5, .d (iD k))]) (n.gates.length) ?_ ⟨0, Nat.zero_le _, rfl, rfl, rfl⟩ ?_
   ·refine Rt.trans (Rt.gc (keep := [0]) (by decide) (by decide) (by simp [fzH, gcH])) ?_
    refine Rt.end (by repeat (first | exact zak _ | refine zah ?_ (by first | rfl | (simp [r_f, zaa, zab]; done) | simp [r_f, zaa, zab, *]))) ?_
    first | rfl | (simp only [r_g, Nat.reduceAdd, ↓reduceIte, Nat.reduceEqDiff, zas, zax, zae, zaf, za5, zap]; first | done | rfl)
   rintro τ' H' mm ⟨k, hk, rfl, rfl, rfl⟩
   refine zam fun K14 hK14 => ?_
   refine zac hp zaj hc rfl fun K15 hK15 => ?_
   simp -dsimp -implicitDefEqProofs (disch := first | assumption | omega | (simp only [r_z, zaa, zab] <;> omega) | decide) only [r_r, ↓reduceIte, Nat.reduceEqDiff, Nat.reduceAdd, D.fix, Int.reduceToNat, Nat.reduceMul, Nat.reduceBNe, Nat.reduceBEq, zas, zax, zae, zaf, za5, zap, zb0]
   refine hK15 _ _ ?_
   refine zaq rfl (fun ht => ?_) (fun ht => ?_)
   ·have hlt : k < n.gates.length := by simp at ht; omega
    have hg := jj7 h.g2 hlt
    have hv := h.gv _ (zb3 hlt)
    have a3 := jl9 hg.o1 hg.o2
    have a0 := hg.a0; have a1 := hg.a1; have b0 := hg.b0; have b1 := hg.b1; have c0 := hg.c0; have c1 := hg.c1; have n0 := hg.n0
    have v1 := hv.c; have v2 := hv.b; have v3 := hv.n; have v4 := hv.m
    obtain ⟨ar, har⟩ : ∃ ar, ar = arN (nth n.gates k).op := ⟨_, rfl⟩
    have hac := jme hg.o1 hg.o2
    rw [← har] at a3 hac
    have k0 : decide ((ar : Int) < 0) = false := decide_eq_false (by omega)
    have k1 := znt (nth n.gates k).a (2 + n.ins.length + k) a0 (by omega)
    have k2 := znu (u := decide ((1 : Int) < ar)) (n := (nth n.gates k).b) (m := 2 + n.ins.length + k) (fun _ => ⟨b0, by omega⟩) (fun hu => by simp at hu; rcases a3 with ⟨e, _⟩ | ⟨_, _, e⟩ | ⟨_, e⟩; exact v2 e; omega; omega)
    have k3 := znu (u := decide ((2 : Int) < ar)) (n := (nth n.gates k).c) (m := 2 + n.ins.length + k) (fun _ => ⟨c0, by omega⟩) (fun hu => by simp at hu; rcases a3 with ⟨e, _⟩ | ⟨_, e, _⟩ | ⟨_, e⟩; exact v1 (by omega); exact v1 e; omega)
    have k4 := znu (u := (nth n.gates k).op == 7) (n := (nth n.gates k).n) (m := 64) (fun _ => ⟨n0, by omega⟩) (fun hu => v3 (by simpa using hu))
    refine zay (hK14 _ _ ?_)
    refine zam fun K16 hK16 => ?_
    refine zaz ?_
    refine zac hp zaj hc rfl fun K17 hK17 => ?_
    simp -dsimp -implicitDefEqProofs (disch := first | assumption | omega | (simp only [r_z, zaa, zab] <;> omega) | decide) only [r_r, ↓reduceIte, Nat.reduceEqDiff, Nat.reduceAdd, D.fix, Int.reduceToNat, Nat.reduceMul, Nat.reduceBNe, Nat.reduceBEq, zas, zax, zae, zaf, za5, zap, zav, zaw, zb0]
    refine hK17 _ _ ?_
    refine zbn zaj hc mixed rfl (q := 0) (by kernel_rfl) (by kernel_rfl) fun K18 hK18 => ?_
    simp -dsimp -implicitDefEqProofs (disch := first | assumption | omega | (simp only [r_z, zaa, zab] <;> omega) | decide) only [r_r, ↓reduceIte, Nat.reduceEqDiff, Nat.reduceAdd, D.fix, Int.reduceToNat, Nat.reduceMul, Nat.reduceBNe, Nat.reduceBEq, zas, zax, zae, zaf, za5, zap, zb0]
    refine zb4 (hac) rfl ?_
    simp -dsimp -implicitDefEqProofs (disch := first | assumption | omega | (simp only [r_z, zaa, zab] <;> omega) | decide) only [r_r, ↓reduceIte, Nat.reduceEqDiff, Nat.reduceAdd, D.fix, Int.reduceToNat, Nat.reduceMul, Nat.reduceBNe, Nat.reduceBEq, zas, zax, zae, zaf, za5, zap, zb0]
    refine hK18 _ _ ?_
    refine zac hp zaj hc rfl fun K19 hK19 => ?_
    simp -dsimp -implicitDefEqProofs (disch := first | assumption | omega | (simp only [r_z, zaa, zab] <;> omega) | decide) only [r_r, ↓reduceIte, Nat.reduceEqDiff, Nat.reduceAdd, D.fix, Int.reduceToNat, Nat.reduceMul, Nat.reduceBNe, Nat.reduceBEq, zas, zax, zae, zaf, za5, zap, k0, zb0]
    refine zb4 (k1) rfl ?_
    simp -dsimp -implicitDefEqProofs (disch := first | assumption | omega | (simp only [r_z, zaa, zab] <;> omega) | decide) only [r_r, ↓reduceIte, Nat.reduceEqDiff, Nat.reduceAdd, D.fix, Int.reduceToNat, Nat.reduceMul, Nat.reduceBNe, Nat.reduceBEq, zas, zax, zae, zaf, za5, zap, k0, zb0]
    refine zb4 (k2) rfl ?_
    simp -dsimp -implicitDefEqProofs (disch := first | assumption | omega | (simp only [r_z, zaa, zab] <;> omega) | decide) only [r_r, ↓reduceIte, Nat.reduceEqDiff, Nat.reduceAdd, D.fix, Int.reduceToNat, Nat.reduceMul, Nat.reduceBNe, Nat.reduceBEq, zas, zax, zae, zaf, za5, zap, k0, zb0]
    refine zb4 (k3) rfl ?_
    simp -dsimp -implicitDefEqProofs (disch := first | assumption | omega | (simp only [r_z, zaa, zab] <;> omega) | decide) only [r_r, ↓reduceIte, Nat.reduceEqDiff, Nat.reduceAdd, D.fix, Int.reduceToNat, Nat.reduceMul, Nat.reduceBNe, Nat.reduceBEq, zas, zax, zae, zaf, za5, zap, k0, zb0]
    refine zb4 (k4) rfl ?_
    simp -dsimp -implicitDefEqProofs (disch := first | assumption | omega | (simp only [r_z, zaa, zab] <;> omega) | decide) only [r_r, ↓reduceIte, Nat.reduceEqDiff, Nat.reduceAdd, D.fix, Int.reduceToNat, Nat.reduceMul, Nat.reduceBNe, Nat.reduceBEq, zas, zax, zae, zaf, za5, zap, k0, zb0]
    refine hK19 _ _ ?_
    refine zaq rfl (fun ht => ?_) (fun ht => ?_)
    ·cases ht
    ·refine zay (hK16 _ _ ?_)
     refine zbo hp zaj hc rfl fun K20 hK20 => ?_
     simp -dsimp -implicitDefEqProofs (disch := first | assumption | omega | (simp only [r_z, zaa, zab] <;> omega) | decide) only [r_r, ↓reduceIte, Nat.reduceEqDiff, Nat.reduceAdd, D.fix, Int.reduceToNat, Nat.reduceMul, Nat.reduceBNe, Nat.reduceBEq, zas, zax, zae, zaf, za5, zap, zb0]
     refine hK20 _ _ ⟨_, _, _, ?_, ⟨k + 1, by omega, rfl, rfl, rfl⟩, ?_⟩
     ·first | omega | (simp only [List.length_cons]; omega) | (dsimp only; omega)
     ·refine Rt.trans (Rt.gc (keep := [0]) (by decide) (by decide) (by simp [fzH, gcH])) ?_
      refine Rt.end (by repeat (first | exact zak _ | refine zah ?_ (by first | rfl | (simp [r_f, zaa, zab]; done) | simp [r_f, zaa, zab, *]))) ?_
      first | rfl | (simp only [r_g, Nat.reduceAdd, ↓reduceIte, Nat.reduceEqDiff, zas, zax, zae, zaf, za5, zap]; first | done | rfl)
   ·refine zbj (hK12 _ _ ?_)
    refine zam fun K21 hK21 => ?_
    refine zac hp zaj hc rfl fun K22 hK22 => ?_
    simp -dsimp -implicitDefEqProofs (disch := first | assumption | omega | (simp only [r_z, zaa, zab] <;> omega) | decide) only [r_r, ↓reduceIte, Nat.reduceEqDiff, Nat.reduceAdd, D.fix, Int.reduceToNat, Nat.reduceMul, Nat.reduceBNe, Nat.reduceBEq, zas, zax, zae, zaf, za5, zap]
    refine hK22 _ _ ?_
    refine zaz ?_
    refine za7 hp (fun τ' H' mm => ∃ (k : Nat), (k ≤ n.out.length) ∧ mm = n.out.length - k ∧ H' = [.cells (avs (zax n))] ∧ τ' = frL [(1, .op 0 0), (9, .d (iD k))]) (n.out.length) ?_ ⟨0, Nat.zero_le _, rfl, rfl, rfl⟩ ?_
    ·refine Rt.trans (Rt.gc (keep := [0]) (by decide) (by decide) (by simp [fzH, gcH])) ?_
     refine Rt.end (by repeat (first | exact zak _ | refine zah ?_ (by first | rfl | (simp [r_f, zaa, zab]; done) | simp [r_f, zaa, zab, *]))) ?_
     first | rfl | (simp only [r_g, Nat.reduceAdd, ↓reduceIte, Nat.reduceEqDiff, zas, zax, zae, zaf, za5, zap]; first | done | rfl)
    rintro τ' H' mm ⟨k, hk, rfl, rfl, rfl⟩
    refine zam fun K23 hK23 => ?_
    refine zac hp zaj hc rfl fun K24 hK24 => ?_
    simp -dsimp -implicitDefEqProofs (disch := first | assumption | omega | (simp only [r_z, zaa, zab] <;> omega) | decide) only [r_r, ↓reduceIte, Nat.reduceEqDiff, Nat.reduceAdd, D.fix, Int.reduceToNat, Nat.reduceMul, Nat.reduceBNe, Nat.reduceBEq, zas, zax, zae, zaf, za5, zap, zb0]
    refine hK24 _ _ ?_
    refine zaq rfl (fun ht => ?_) (fun ht => ?_)
    ·have hlt : k < n.out.length := by simp at ht; omega
     have hw := h.wo _ (zb3 hlt)
     have hdk := h.d2 k (by omega)
     have q4 : decide ((nth n.out k).i < 0) = false := decide_eq_false (by have := hw.i0; omega)
     have q5 : decide ((nth n.out k).bit < 0) = false := decide_eq_false (by have := hw.b0; omega)
     have q6 : decide (7 < (nth n.out k).bit) = false := decide_eq_false (by have := hw.b7; omega)
     have k1 := znt (nth n.drive k) (2 + n.ins.length + n.gates.length) hdk.1 (by omega)
     refine zay (hK23 _ _ ?_)
     refine zam fun K25 hK25 => ?_
     refine zaz ?_
     refine zac hp zaj hc rfl fun K26 hK26 => ?_
     simp -dsimp -implicitDefEqProofs (disch := first | assumption | omega | (simp only [r_z, zaa, zab] <;> omega) | decide) only [r_r, ↓reduceIte, Nat.reduceEqDiff, Nat.reduceAdd, D.fix, Int.reduceToNat, Nat.reduceMul, Nat.reduceBNe, Nat.reduceBEq, zas, zax, zae, zaf, za5, zap, zca, za0, zb0]
     refine hK26 _ _ ?_
     refine zbn zaj hc mixed rfl (q := 0) (by kernel_rfl) (by kernel_rfl) fun K27 hK27 => ?_
     rcases hw.k with q | ⟨q, q'⟩
     ·have q2 : ((nth n.out k).kind != 1) = false := by rw [q]; rfl
      have q3 := q2
      have q7 := q2
      simp -dsimp -implicitDefEqProofs (disch := first | assumption | omega | (simp only [r_z, zaa, zab] <;> omega) | decide) only [r_r, ↓reduceIte, Nat.reduceEqDiff, Nat.reduceAdd, D.fix, Int.reduceToNat, Nat.reduceMul, Nat.reduceBNe, Nat.reduceBEq, zas, zax, zae, zaf, za5, zap, q2, q3, q4, q5, q6, q7, zcc, zb0]
      refine zb4 (hno) rfl ?_
      simp -dsimp -implicitDefEqProofs (disch := first | assumption | omega | (simp only [r_z, zaa, zab] <;> omega) | decide) only [r_r, ↓reduceIte, Nat.reduceEqDiff, Nat.reduceAdd, D.fix, Int.reduceToNat, Nat.reduceMul, Nat.reduceBNe, Nat.reduceBEq, zas, zax, zae, zaf, za5, zap, q2, q3, q4, q5, q6, q7, zcc, zb0]
      refine zb4 (k1) rfl ?_
      simp -dsimp -implicitDefEqProofs (disch := first | assumption | omega | (simp only [r_z, zaa, zab] <;> omega) | decide) only [r_r, ↓reduceIte, Nat.reduceEqDiff, Nat.reduceAdd, D.fix, Int.reduceToNat, Nat.reduceMul, Nat.reduceBNe, Nat.reduceBEq, zas, zax, zae, zaf, za5, zap, q2, q3, q4, q5, q6, q7, zcc, zb0]
      refine hK27 _ _ ?_
      refine zaq rfl (fun ht => ?_) (fun ht => ?_)
      ·cases ht
      ·refine zay (hK25 _ _ ?_)
       refine zbo hp zaj hc rfl fun K28 hK28 => ?_
       simp -dsimp -implicitDefEqProofs (disch := first | assumption | omega | (simp only [r_z, zaa, zab] <;> omega) | decide) only [r_r, ↓reduceIte, Nat.reduceEqDiff, Nat.reduceAdd, D.fix, Int.reduceToNat, Nat.reduceMul, Nat.reduceBNe, Nat.reduceBEq, zas, zax, zae, zaf, za5, zap, zb0]
       refine hK28 _ _ ⟨_, _, _, ?_, ⟨k + 1, by omega, rfl, rfl, rfl⟩, ?_⟩
       ·first | omega | (simp only [List.length_cons]; omega) | (dsimp only; omega)
       ·refine Rt.trans (Rt.gc (keep := [0]) (by decide) (by decide) (by simp [fzH, gcH])) ?_
        refine Rt.end (by repeat (first | exact zak _ | refine zah ?_ (by first | rfl | (simp [r_f, zaa, zab]; done) | simp [r_f, zaa, zab, *]))) ?_
        first | rfl | (simp only [r_g, Nat.reduceAdd, ↓reduceIte, Nat.reduceEqDiff, zas, zax, zae, zaf, za5, zap]; first | done | rfl)
     ·have q2 : decide ((nth n.out k).kind < 5) = false := decide_eq_false (by omega)
      have q3 : decide (10 < (nth n.out k).kind) = false := decide_eq_false (by omega)
      have q7 : ((nth n.out k).kind != 1) = true := by simp; omega
      simp -dsimp -implicitDefEqProofs (disch := first | assumption | omega | (simp only [r_z, zaa, zab] <;> omega) | decide) only [r_r, ↓reduceIte, Nat.reduceEqDiff, Nat.reduceAdd, D.fix, Int.reduceToNat, Nat.reduceMul, Nat.reduceBNe, Nat.reduceBEq, zas, zax, zae, zaf, za5, zap, q2, q3, q4, q5, q6, q7, zcc, zb0]
      refine zb4 (hno) rfl ?_
      simp -dsimp -implicitDefEqProofs (disch := first | assumption | omega | (simp only [r_z, zaa, zab] <;> omega) | decide) only [r_r, ↓reduceIte, Nat.reduceEqDiff, Nat.reduceAdd, D.fix, Int.reduceToNat, Nat.reduceMul, Nat.reduceBNe, Nat.reduceBEq, zas, zax, zae, zaf, za5, zap, q2, q3, q4, q5, q6, q7, zcc, zb0]
      refine zb4 (k1) rfl ?_
      simp -dsimp -implicitDefEqProofs (disch := first | assumption | omega | (simp only [r_z, zaa, zab] <;> omega) | decide) only [r_r, ↓reduceIte, Nat.reduceEqDiff, Nat.reduceAdd, D.fix, Int.reduceToNat, Nat.reduceMul, Nat.reduceBNe, Nat.reduceBEq, zas, zax, zae, zaf, za5, zap, q2, q3, q4, q5, q6, q7, zcc, zb0]
      refine hK27 _ _ ?_
      refine zaq rfl (fun ht => ?_) (fun ht => ?_)
      ·cases ht
      ·refine zay (hK25 _ _ ?_)
       refine zbo hp zaj hc rfl fun K29 hK29 => ?_
       simp -dsimp -implicitDefEqProofs (disch := first | assumption | omega | (simp only [r_z, zaa, zab] <;> omega) | decide) only [r_r, ↓reduceIte, Nat.reduceEqDiff, Nat.reduceAdd, D.fix, Int.reduceToNat, Nat.reduceMul, Nat.reduceBNe, Nat.reduceBEq, zas, zax, zae, zaf, za5, zap, zb0]
       refine hK29 _ _ ⟨_, _, _, ?_, ⟨k + 1, by omega, rfl, rfl, rfl⟩, ?_⟩
       ·first | omega | (simp only [List.length_cons]; omega) | (dsimp only; omega)
       ·refine Rt.trans (Rt.gc (keep := [0]) (by decide) (by decide) (by simp [fzH, gcH])) ?_
        refine Rt.end (by repeat (first | exact zak _ | refine zah ?_ (by first | rfl | (simp [r_f, zaa, zab]; done) | simp [r_f, zaa, zab, *]))) ?_
        first | rfl | (simp only [r_g, Nat.reduceAdd, ↓reduceIte, Nat.reduceEqDiff, zas, zax, zae, zaf, za5, zap]; first | done | rfl)
    ·refine zbj (hK21 _ _ ?_)
     refine zac hp zaj hc rfl fun K30 hK30 => ?_
     simp -dsimp -implicitDefEqProofs (disch := first | assumption | omega | (simp only [r_z, zaa, zab] <;> omega) | decide) only [r_r, ↓reduceIte, Nat.reduceEqDiff, Nat.reduceAdd, D.fix, Int.reduceToNat, Nat.reduceMul, Nat.reduceBNe, Nat.reduceBEq, zas, zax, zae, zaf, za5, zap]
     refine hK30 _ _ ?_
     refine za4 ?_
     show closeA _ _ = _
     simp (disch := first | assumption | omega | (simp only [r_z, zaa, zab] <;> omega) | decide) only [r_c, Nat.reduceAdd, D.fix, ↓reduceIte, Nat.reduceEqDiff, zas, zax, zae, zaf, za5, zap]
theorem jmg (l : List Wire) (hl : l.length ≤ 1000000) : za9 Try.prog 27 [zae l, zae l] (.d (oD true)) := by
 refine zbc (fn := Try.f27) (by kernel_rfl) Try.func27 rfl (Nat.le_of_ble_eq_true rfl) fun c hc hp => ?_
 refine zbf (τ' := frL [(0, .d (zae l)), (1, .d (zae l))]) (by repeat (first | exact zak _ | refine zah ?_ (by first | rfl | (simp [r_f, zaa]; done) | simp [r_f, zaa, *]))) ?_
 refine zac hp zaj hc rfl fun K1 hK1 => ?_
 simp -dsimp -implicitDefEqProofs (disch := first | assumption | omega | (simp only [r_z, zaa] <;> omega) | decide) only [r_r, ↓reduceIte, Nat.reduceEqDiff, Nat.reduceAdd, D.fix, Int.reduceToNat, Nat.reduceMul, Nat.reduceBNe, Nat.reduceBEq, zae, zca, za0, za5, r_e]
 refine hK1 _ _ ?_
 refine zam fun K2 hK2 => ?_
 refine zac hp zaj hc rfl fun K3 hK3 => ?_
 simp -dsimp -implicitDefEqProofs (disch := first | assumption | omega | (simp only [r_z, zaa] <;> omega) | decide) only [r_r, ↓reduceIte, Nat.reduceEqDiff, Nat.reduceAdd, D.fix, Int.reduceToNat, Nat.reduceMul, Nat.reduceBNe, Nat.reduceBEq, zae, zca, za0, za5, r_e, zb0]
 refine hK3 _ _ ?_
 refine zaq rfl (fun ht => ?_) (fun ht => ?_)
 ·simp at ht
 ·refine zay (hK2 _ _ ?_)
  refine zam fun K4 hK4 => ?_
  refine zac hp zaj hc rfl fun K5 hK5 => ?_
  simp -dsimp -implicitDefEqProofs (disch := first | assumption | omega | (simp only [r_z, zaa] <;> omega) | decide) only [r_r, ↓reduceIte, Nat.reduceEqDiff, Nat.reduceAdd, D.fix, Int.reduceToNat, Nat.reduceMul, Nat.reduceBNe, Nat.reduceBEq, zae, zca, za0, za5, r_e]
  refine hK5 _ _ ?_
  refine zaz ?_
  refine za7 hp (fun τ' H' mm => ∃ (k : Nat), (k ≤ l.length) ∧ mm = l.length - k ∧ H' = [] ∧ τ' = frL [(0, .d (zae l)), (1, .d (zae l)), (5, .d (iD k))]) (l.length) ?_ ⟨0, Nat.zero_le _, rfl, rfl, rfl⟩ ?_
  ·refine Rt.end (by repeat (first | exact zak _ | refine zah ?_ (by first | rfl | (simp [r_f, zaa]; done) | simp [r_f, zaa, *]))) ?_
   first | rfl | (simp only [r_g, Nat.reduceAdd, ↓reduceIte, Nat.reduceEqDiff, zae, zca, za0, za5, r_e]; first | done | rfl)
  rintro τ' H' mm ⟨k, hk, rfl, rfl, rfl⟩
  refine zam fun K6 hK6 => ?_
  refine zac hp zaj hc rfl fun K7 hK7 => ?_
  simp -dsimp -implicitDefEqProofs (disch := first | assumption | omega | (simp only [r_z, zaa] <;> omega) | decide) only [r_r, ↓reduceIte, Nat.reduceEqDiff, Nat.reduceAdd, D.fix, Int.reduceToNat, Nat.reduceMul, Nat.reduceBNe, Nat.reduceBEq, zae, zca, za0, za5, r_e, zb0]
  refine hK7 _ _ ?_
  refine zaq rfl (fun ht => ?_) (fun ht => ?_)
  ·have hlt : k < l.length := by simp at ht; omega
   refine zay (hK6 _ _ ?_)
   refine zam fun K8 hK8 => ?_
   refine zaz ?_
   refine zbn zaj hc mixed rfl (q := 0) (by kernel_rfl) (by kernel_rfl) fun K9 hK9 => ?_
   simp -dsimp -implicitDefEqProofs (disch := first | assumption | omega | (simp only [r_z, zaa] <;> omega) | decide) only [r_r, ↓reduceIte, Nat.reduceEqDiff, Nat.reduceAdd, D.fix, Int.reduceToNat, Nat.reduceMul, Nat.reduceBNe, Nat.reduceBEq, zae, zca, za0, za5, r_e, zb0, zvv jgc, zvv jgc]
   refine hK9 _ _ ?_
   refine zaq rfl (fun ht => ?_) (fun ht => ?_)
   ·simp at ht
   ·refine zay (hK8 _ _ ?_)
    refine zbo hp zaj hc rfl fun K10 hK10 => ?_
    simp -dsimp -implicitDefEqProofs (disch := first | assumption | omega | (simp only [r_z, zaa] <;> omega) | decide) only [r_r, ↓reduceIte, Nat.reduceEqDiff, Nat.reduceAdd, D.fix, Int.reduceToNat, Nat.reduceMul, Nat.reduceBNe, Nat.reduceBEq, zae, zca, za0, za5, r_e, zb0]
    refine hK10 _ _ ⟨_, _, _, ?_, ⟨k + 1, by omega, rfl, rfl, rfl⟩, ?_⟩
    ·first | omega | (simp only [List.length_cons]; omega) | (dsimp only; omega)
    ·refine Rt.end (by repeat (first | exact zak _ | refine zah ?_ (by first | rfl | (simp [r_f, zaa]; done) | simp [r_f, zaa, *]))) ?_
     first | rfl | (simp only [r_g, Nat.reduceAdd, ↓reduceIte, Nat.reduceEqDiff, zae, zca, za0, za5, r_e]; first | done | rfl)
  ·refine zbj (hK4 _ _ ?_)
   refine zac hp zaj hc rfl fun K11 hK11 => ?_
   simp -dsimp -implicitDefEqProofs (disch := first | assumption | omega | (simp only [r_z, zaa] <;> omega) | decide) only [r_r, ↓reduceIte, Nat.reduceEqDiff, Nat.reduceAdd, D.fix, Int.reduceToNat, Nat.reduceMul, Nat.reduceBNe, Nat.reduceBEq, zae, zca, za0, za5, r_e]
   refine hK11 _ _ ?_
   refine za4 ?_
   show closeA _ _ = _
   simp (disch := first | assumption | omega | (simp only [r_z, zaa] <;> omega) | decide) only [r_c, Nat.reduceAdd, D.fix, ↓reduceIte, Nat.reduceEqDiff, zae, zca, za0, za5, r_e]
end Go.Proofs.Ytignimmnnccblaa
