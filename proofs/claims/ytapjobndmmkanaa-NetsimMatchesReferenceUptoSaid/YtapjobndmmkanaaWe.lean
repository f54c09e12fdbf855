/- The reference's builder: the bits of an address. -/
import Derived.Test.YtapjobndmmkanaaQr
import Derived.Test.YtapjobndmmkanaaWd
import Derived.Test.YtapjobndmmkanaaVa
set_option linter.unusedVariables false
set_option linter.unusedSimpArgs false
set_option maxRecDepth 100000
set_option maxHeartbeats 4000000
namespace Go.Proofs.Ytapjobndmmkanaa
open Go Go.RowKit
theorem jwk : (((type_of% @zdh) ∧ ((type_of% @zfo) ∧ (type_of% @zev))) ∧ ((type_of% @zew) ∧ ((type_of% @zuk) ∧ (type_of% @zho)))) := ⟨⟨@zdh, ⟨@zfo, @zev⟩⟩, ⟨@zew, ⟨@zuk, @zho⟩⟩⟩
def zrg (l : List Int) (k : Nat) : List Int := [if 0 < k then nth l 0 else 0, if 1 < k then nth l 1 else 0, if 2 < k then nth l 2 else 0]
theorem zpc {l : List Int} {w k : Nat} (hk : k ≤ 3) (h : ∀ j, j < k → j < l.length ∧ 2 ^ j < w) (he : ¬ (k < 3 ∧ k < l.length ∧ 2 ^ k < w)) : zrg l k = jcd l w := by
 have hn : ∀ j, k ≤ j → j < 3 → ¬ (j < l.length ∧ 2 ^ j < w) := fun j h1 h2 h3 => he ⟨by omega, by omega, by
  have := Nat.pow_le_pow_right (show 0 < 2 by decide) h1
  omega⟩
 have key : ∀ j, j < 3 → (if j < k then nth l j else 0) = (if j < l.length ∧ 2 ^ j < w then nth l j else 0) := fun j hj => by
  by_cases h1 : j < k
  ·rw [if_pos h1, if_pos (h j h1)]
  ·rw [if_neg h1, if_neg (hn j (by omega) hj)]
 show [_, _, _] = [_, _, _]
 rw [key 0 (by decide), key 1 (by decide), key 2 (by decide)]
theorem zgi {l : List Int} {k : Nat} : (zrg l k).length = 3 := rfl
theorem zs2 {p q : Prop} (hq : q) (h : p = q := by
 conv => lhs; simp -dsimp -implicitDefEqProofs (disch := first | assumption | omega | (simp only [r_z, zgi] <;> omega) | decide) only [r_r, ↓reduceIte, Nat.reduceEqDiff, Nat.reduceAdd, D.fix, Int.reduceToNat, Nat.reduceMul, Nat.reduceBNe, Nat.reduceBEq, intsD, zay, Int.toNat_natCast]) : p := h.mpr hq
theorem zws {p q : Prop} (hq : q) (h : p = q := by
 conv => lhs; simp -dsimp -implicitDefEqProofs (disch := first | assumption | omega | (simp only [r_z, zgi] <;> omega) | decide) only [r_r, ↓reduceIte, Nat.reduceEqDiff, Nat.reduceAdd, D.fix, Int.reduceToNat, Nat.reduceMul, Nat.reduceBNe, Nat.reduceBEq, intsD, zay, Int.toNat_natCast, jwk]) : p := h.mpr hq
theorem jgw {m : List Nat} {τ τ' : Fr} {H H' : zad} (h2 : H = H') (h : zgu τ τ' := by
 repeat (first | exact zar _ | refine zam ?_ (by first | rfl | (simp [r_f, zgi]; done) | simp [r_f, zgi, *]))) : Rt m τ H τ' H' := Rt.end h h2
theorem zp8 {p q r : Prop} (e : r) (hq : q) (h : r → p = q := by
 intro hY
 conv => lhs; simp -dsimp -implicitDefEqProofs (disch := first | assumption | omega | (simp only [r_z, zgi] <;> omega) | decide) only [r_r, ↓reduceIte, Nat.reduceEqDiff, Nat.reduceAdd, D.fix, Int.reduceToNat, Nat.reduceMul, Nat.reduceBNe, Nat.reduceBEq, intsD, zay, Int.toNat_natCast, jwk, hY]) : p := (h e).mpr hq
theorem jpz {p : Prop} (h : p := by
 first | rfl | (simp only [r_g, Nat.reduceAdd, ↓reduceIte, Nat.reduceEqDiff, intsD, zay, Int.toNat_natCast]; first | done | rfl)) : p := h
theorem jp0 {p q : Prop} (hq : q) (h : p = q := by
 conv => lhs; simp (disch := first | assumption | omega | (simp only [r_z, zgi] <;> omega) | decide) only [r_c, Nat.reduceAdd, D.fix, ↓reduceIte, Nat.reduceEqDiff, intsD, zay, Int.toNat_natCast]) : p := h.mpr hq
theorem jz5 {p q : Prop} (hq : q) (h : p = q := by
 conv => lhs; simp only [r_g, Nat.reduceAdd, ↓reduceIte, Nat.reduceEqDiff, intsD, zay, Int.toNat_natCast]) : p := h.mpr hq
theorem jgx (l : List Int) (w : Nat) (hl : l.length ≤ 100) (hw : w ≤ 1000) : zaz Try.prog 81 [intsD l, iD w] (.d (intsD (jcd l w))) := by
 refine zaw (fn := Try.f81) (by kernel_rfl) Try.func81 rfl (Nat.le_of_ble_eq_true rfl) fun c hc hp => ?_
 refine za0 (τ' := frL [(0, .d (intsD l)), (1, .d (iD w))]) (by repeat (first | exact zar _ | refine zam ?_ (by first | rfl | (simp [r_f, zgi]; done) | simp [r_f, zgi, *]))) ?_
 refine szq hp (fun _ hZ => zs2 hZ) ?_
 refine szq hp (fun _ hZ => zws hZ) ?_
 refine zaa fun K3 hK3 => ?_
 refine szq hp (fun _ hZ => zs2 hZ) ?_
 refine zac ?_
 refine zan hp (fun τ' H' mm => ∃ (k : Nat), (k ≤ 3 ∧ ∀ j, j < k → j < l.length ∧ 2 ^ j < w) ∧ mm = 3 - k ∧ H' = [.cells (avs ((zrg l k).map iD))] ∧ τ' = frL [(0, .d (intsD l)), (1, .d (iD w)), (5, .os 1 0 0 3), (6, .d (iD k))]) (3) ?_ ⟨0, ⟨by omega, fun j hj => by omega⟩, rfl, rfl, rfl⟩ ?_
 ·refine jgw ?_
  rfl
 rintro τ' H' mm ⟨k, ⟨hk, hc0⟩, rfl, rfl, rfl⟩
 refine zaa fun K5 hK5 => ?_
 refine zag hp zai hc rfl fun K6 hK6 => ?_
 have hsp : (k = 0 ∧ l.length ≤ 0) ∨ (k = 0 ∧ 0 < l.length ∧ w ≤ 1) ∨ (k = 0 ∧ 0 < l.length ∧ 1 < w) ∨ (k = 1 ∧ l.length ≤ 1) ∨ (k = 1 ∧ 1 < l.length ∧ w ≤ 2) ∨ (k = 1 ∧ 1 < l.length ∧ 2 < w) ∨ (k = 2 ∧ l.length ≤ 2) ∨ (k = 2 ∧ 2 < l.length ∧ w ≤ 4) ∨ (k = 2 ∧ 2 < l.length ∧ 4 < w) ∨ (k = 3) := by omega
 rcases hsp with ⟨rfl, h1⟩ | ⟨rfl, h1, h2⟩ | ⟨rfl, h1, h2⟩ | ⟨rfl, h1⟩ | ⟨rfl, h1, h2⟩ | ⟨rfl, h1, h2⟩ | ⟨rfl, h1⟩ | ⟨rfl, h1, h2⟩ | ⟨rfl, h1, h2⟩ | rfl
 ·have qa : decide (((0 : Nat) : Int) < 3) = true := by decide
  have qb : decide (((0 : Nat) : Int) < l.length) = false := decide_eq_false (by omega)
  have hu : IntKind.u64.wrap ((0 : Nat) : Int) = ((0 : Nat) : Int) := by decide
  have hs : IntKind.i64.wrap (1 * 2 ^ min (0 : Nat) 64) = ((1 : Nat) : Int) := by decide
  have qc := qb
  refine zp8 (sza qa (sza qb (sza hu (sza hs qc)))) ?_
  refine hK6 _ _ ?_
  refine szf ?_
  have e := zpc (l := l) (w := w) (k := 0) (by omega) hc0 (fun e => by have e1 := e.1; have e2 := e.2.1; have e3 := e.2.2; simp only [Nat.reducePow] at e3; omega)
  refine zau (hK3 _ _ ?_)
  refine zbg hp (τ' := frL [(5, .d (.fs ((zrg l 0).map iD) 3))]) (H' := [.dead]) ?_ ?_
  ·refine Rt.trans (Rt.fz (id := 0) (l := ((zrg l 0).map iD)) rfl) ?_
   refine Rt.trans (Rt.slot 5 (zee (za2 (by first | rfl | simp)))) ?_
   refine jgw ?_
   exact jpz
  refine szq hp (fun _ hZ => zs2 hZ) ?_
  refine zal ?_
  show closeA _ _ = _
  refine jp0 ?_
  rw [← e]; rfl
 ·have qa : decide (((0 : Nat) : Int) < 3) = true := by decide
  have qb : decide (((0 : Nat) : Int) < l.length) = true := decide_eq_true (by omega)
  have hu : IntKind.u64.wrap ((0 : Nat) : Int) = ((0 : Nat) : Int) := by decide
  have hs : IntKind.i64.wrap (1 * 2 ^ min (0 : Nat) 64) = ((1 : Nat) : Int) := by decide
  have qc : decide (((1 : Nat) : Int) < (w : Int)) = false := decide_eq_false (by omega)
  refine zp8 (sza qa (sza qb (sza hu (sza hs qc)))) ?_
  refine hK6 _ _ ?_
  refine szf ?_
  have e := zpc (l := l) (w := w) (k := 0) (by omega) hc0 (fun e => by have e1 := e.1; have e2 := e.2.1; have e3 := e.2.2; simp only [Nat.reducePow] at e3; omega)
  refine zau (hK3 _ _ ?_)
  refine zbg hp (τ' := frL [(5, .d (.fs ((zrg l 0).map iD) 3))]) (H' := [.dead]) ?_ ?_
  ·refine Rt.trans (Rt.fz (id := 0) (l := ((zrg l 0).map iD)) rfl) ?_
   refine Rt.trans (Rt.slot 5 (zee (za2 (by first | rfl | simp)))) ?_
   refine jgw ?_
   exact jpz
  refine szq hp (fun _ hZ => zs2 hZ) ?_
  refine zal ?_
  show closeA _ _ = _
  refine jp0 ?_
  rw [← e]; rfl
 ·have qa : decide (((0 : Nat) : Int) < 3) = true := by decide
  have qb : decide (((0 : Nat) : Int) < l.length) = true := decide_eq_true (by omega)
  have hu : IntKind.u64.wrap ((0 : Nat) : Int) = ((0 : Nat) : Int) := by decide
  have hs : IntKind.i64.wrap (1 * 2 ^ min (0 : Nat) 64) = ((1 : Nat) : Int) := by decide
  have qc : decide (((1 : Nat) : Int) < (w : Int)) = true := decide_eq_true (by omega)
  refine zp8 (sza qa (sza qb (sza hu (sza hs qc)))) ?_
  refine hK6 _ _ ?_
  refine szt ?_
  refine zaf (hK5 _ _ ?_)
  refine zaa fun K9 hK9 => ?_
  refine zac ?_
  refine szs hp (fun _ hZ => zws hZ) (hK9 _ _ ?_)
  refine za5 hp zai hc rfl fun K11 hK11 => ?_
  refine zws ?_
  refine hK11 _ _ ⟨_, _, _, ?_, ⟨0 + 1, ⟨by omega, fun j hj => by rcases (show j < 0 ∨ j = 0 by omega) with h | h; exact hc0 j h; subst h; exact ⟨h1, h2⟩⟩, rfl, rfl, rfl⟩, ?_⟩
  ·first | omega | (simp only [List.length_cons]; omega) | (dsimp only; omega)
  ·refine Rt.trans (Rt.gc (keep := [0]) (by decide) (by decide) (by simp [fzH, gcH])) ?_
   refine jgw ?_
   refine jz5 ?_; simp [zrg, iD]
 ·have qa : decide (((1 : Nat) : Int) < 3) = true := by decide
  have qb : decide (((1 : Nat) : Int) < l.length) = false := decide_eq_false (by omega)
  have hu : IntKind.u64.wrap ((1 : Nat) : Int) = ((1 : Nat) : Int) := by decide
  have hs : IntKind.i64.wrap (1 * 2 ^ min (1 : Nat) 64) = ((2 : Nat) : Int) := by decide
  have qc := qb
  refine zp8 (sza qa (sza qb (sza hu (sza hs qc)))) ?_
  refine hK6 _ _ ?_
  refine szf ?_
  have e := zpc (l := l) (w := w) (k := 1) (by omega) hc0 (fun e => by have e1 := e.1; have e2 := e.2.1; have e3 := e.2.2; simp only [Nat.reducePow] at e3; omega)
  refine zau (hK3 _ _ ?_)
  refine zbg hp (τ' := frL [(5, .d (.fs ((zrg l 1).map iD) 3))]) (H' := [.dead]) ?_ ?_
  ·refine Rt.trans (Rt.fz (id := 0) (l := ((zrg l 1).map iD)) rfl) ?_
   refine Rt.trans (Rt.slot 5 (zee (za2 (by first | rfl | simp)))) ?_
   refine jgw ?_
   exact jpz
  refine szq hp (fun _ hZ => zs2 hZ) ?_
  refine zal ?_
  show closeA _ _ = _
  refine jp0 ?_
  rw [← e]; rfl
 ·have qa : decide (((1 : Nat) : Int) < 3) = true := by decide
  have qb : decide (((1 : Nat) : Int) < l.length) = true := decide_eq_true (by omega)
  have hu : IntKind.u64.wrap ((1 : Nat) : Int) = ((1 : Nat) : Int) := by decide
  have hs : IntKind.i64.wrap (1 * 2 ^ min (1 : Nat) 64) = ((2 : Nat) : Int) := by decide
  have qc : decide (((2 : Nat) : Int) < (w : Int)) = false := decide_eq_false (by omega)
  refine zp8 (sza qa (sza qb (sza hu (sza hs qc)))) ?_
  refine hK6 _ _ ?_
  refine szf ?_
  have e := zpc (l := l) (w := w) (k := 1) (by omega) hc0 (fun e => by have e1 := e.1; have e2 := e.2.1; have e3 := e.2.2; simp only [Nat.reducePow] at e3; omega)
  refine zau (hK3 _ _ ?_)
  refine zbg hp (τ' := frL [(5, .d (.fs ((zrg l 1).map iD) 3))]) (H' := [.dead]) ?_ ?_
  ·refine Rt.trans (Rt.fz (id := 0) (l := ((zrg l 1).map iD)) rfl) ?_
   refine Rt.trans (Rt.slot 5 (zee (za2 (by first | rfl | simp)))) ?_
   refine jgw ?_
   exact jpz
  refine szq hp (fun _ hZ => zs2 hZ) ?_
  refine zal ?_
  show closeA _ _ = _
  refine jp0 ?_
  rw [← e]; rfl
 ·have qa : decide (((1 : Nat) : Int) < 3) = true := by decide
  have qb : decide (((1 : Nat) : Int) < l.length) = true := decide_eq_true (by omega)
  have hu : IntKind.u64.wrap ((1 : Nat) : Int) = ((1 : Nat) : Int) := by decide
  have hs : IntKind.i64.wrap (1 * 2 ^ min (1 : Nat) 64) = ((2 : Nat) : Int) := by decide
  have qc : decide (((2 : Nat) : Int) < (w : Int)) = true := decide_eq_true (by omega)
  refine zp8 (sza qa (sza qb (sza hu (sza hs qc)))) ?_
  refine hK6 _ _ ?_
  refine szt ?_
  refine zaf (hK5 _ _ ?_)
  refine zaa fun K14 hK14 => ?_
  refine zac ?_
  refine szs hp (fun _ hZ => zws hZ) (hK14 _ _ ?_)
  refine za5 hp zai hc rfl fun K16 hK16 => ?_
  refine zws ?_
  refine hK16 _ _ ⟨_, _, _, ?_, ⟨1 + 1, ⟨by omega, fun j hj => by rcases (show j < 1 ∨ j = 1 by omega) with h | h; exact hc0 j h; subst h; exact ⟨h1, h2⟩⟩, rfl, rfl, rfl⟩, ?_⟩
  ·first | omega | (simp only [List.length_cons]; omega) | (dsimp only; omega)
  ·refine Rt.trans (Rt.gc (keep := [0]) (by decide) (by decide) (by simp [fzH, gcH])) ?_
   refine jgw ?_
   refine jz5 ?_; simp [zrg, iD]
 ·have qa : decide (((2 : Nat) : Int) < 3) = true := by decide
  have qb : decide (((2 : Nat) : Int) < l.length) = false := decide_eq_false (by omega)
  have hu : IntKind.u64.wrap ((2 : Nat) : Int) = ((2 : Nat) : Int) := by decide
  have hs : IntKind.i64.wrap (1 * 2 ^ min (2 : Nat) 64) = ((4 : Nat) : Int) := by decide
  have qc := qb
  refine zp8 (sza qa (sza qb (sza hu (sza hs qc)))) ?_
  refine hK6 _ _ ?_
  refine szf ?_
  have e := zpc (l := l) (w := w) (k := 2) (by omega) hc0 (fun e => by have e1 := e.1; have e2 := e.2.1; have e3 := e.2.2; simp only [Nat.reducePow] at e3; omega)
  refine zau (hK3 _ _ ?_)
  refine zbg hp (τ' := frL [(5, .d (.fs ((zrg l 2).map iD) 3))]) (H' := [.dead]) ?_ ?_
  ·refine Rt.trans (Rt.fz (id := 0) (l := ((zrg l 2).map iD)) rfl) ?_
   refine Rt.trans (Rt.slot 5 (zee (za2 (by first | rfl | simp)))) ?_
   refine jgw ?_
   exact jpz
  refine szq hp (fun _ hZ => zs2 hZ) ?_
  refine zal ?_
  show closeA _ _ = _
  refine jp0 ?_
  rw [← e]; rfl
 ·have qa : decide (((2 : Nat) : Int) < 3) = true := by decide
  have qb : decide (((2 : Nat) : Int) < l.length) = true := decide_eq_true (by omega)
  have hu : IntKind.u64.wrap ((2 : Nat) : Int) = ((2 : Nat) : Int) := by decide
  have hs : IntKind.i64.wrap (1 * 2 ^ min (2 : Nat) 64) = ((4 : Nat) : Int) := by decide
  have qc : decide (((4 : Nat) : Int) < (w : Int)) = false := decide_eq_false (by omega)
  refine zp8 (sza qa (sza qb (sza hu (sza hs qc)))) ?_
  refine hK6 _ _ ?_
  refine szf ?_
  have e := zpc (l := l) (w := w) (k := 2) (by omega) hc0 (fun e => by have e1 := e.1; have e2 := e.2.1; have e3 := e.2.2; simp only [Nat.reducePow] at e3; omega)
  refine zau (hK3 _ _ ?_)
  refine zbg hp (τ' := frL [(5, .d (.fs ((zrg l 2).map iD) 3))]) (H' := [.dead]) ?_ ?_
  ·refine Rt.trans (Rt.fz (id := 0) (l := ((zrg l 2).map iD)) rfl) ?_
   refine Rt.trans (Rt.slot 5 (zee (za2 (by first | rfl | simp)))) ?_
   refine jgw ?_
   exact jpz
  refine szq hp (fun _ hZ => zs2 hZ) ?_
  refine zal ?_
  show closeA _ _ = _
  refine jp0 ?_
  rw [← e]; rfl
 ·have qa : decide (((2 : Nat) : Int) < 3) = true := by decide
  have qb : decide (((2 : Nat) : Int) < l.length) = true := decide_eq_true (by omega)
  have hu : IntKind.u64.wrap ((2 : Nat) : Int) = ((2 : Nat) : Int) := by decide
  have hs : IntKind.i64.wrap (1 * 2 ^ min (2 : Nat) 64) = ((4 : Nat) : Int) := by decide
  have qc : decide (((4 : Nat) : Int) < (w : Int)) = true := decide_eq_true (by omega)
  refine zp8 (sza qa (sza qb (sza hu (sza hs qc)))) ?_
  refine hK6 _ _ ?_
  refine szt ?_
  refine zaf (hK5 _ _ ?_)
  refine zaa fun K19 hK19 => ?_
  refine zac ?_
  refine szs hp (fun _ hZ => zws hZ) (hK19 _ _ ?_)
  refine za5 hp zai hc rfl fun K21 hK21 => ?_
  refine zws ?_
  refine hK21 _ _ ⟨_, _, _, ?_, ⟨2 + 1, ⟨by omega, fun j hj => by rcases (show j < 2 ∨ j = 2 by omega) with h | h; exact hc0 j h; subst h; exact ⟨h1, h2⟩⟩, rfl, rfl, rfl⟩, ?_⟩
  ·first | omega | (simp only [List.length_cons]; omega) | (dsimp only; omega)
  ·refine Rt.trans (Rt.gc (keep := [0]) (by decide) (by decide) (by simp [fzH, gcH])) ?_
   refine jgw ?_
   refine jz5 ?_; simp [zrg, iD]
 ·have qa : decide (((3 : Nat) : Int) < 3) = false := by decide
  have qb := qa
  have hu := qa
  have hs := qa
  have qc := qa
  refine zp8 (sza qa (sza qb (sza hu (sza hs qc)))) ?_
  refine hK6 _ _ ?_
  refine szf ?_
  have e := zpc (l := l) (w := w) (k := 3) (by omega) hc0 (fun e => by have e1 := e.1; have e2 := e.2.1; have e3 := e.2.2; simp only [Nat.reducePow] at e3; omega)
  refine zau (hK3 _ _ ?_)
  refine zbg hp (τ' := frL [(5, .d (.fs ((zrg l 3).map iD) 3))]) (H' := [.dead]) ?_ ?_
  ·refine Rt.trans (Rt.fz (id := 0) (l := ((zrg l 3).map iD)) rfl) ?_
   refine Rt.trans (Rt.slot 5 (zee (za2 (by first | rfl | simp)))) ?_
   refine jgw ?_
   exact jpz
  refine szq hp (fun _ hZ => zs2 hZ) ?_
  refine zal ?_
  show closeA _ _ = _
  refine jp0 ?_
  rw [← e]; rfl
end Go.Proofs.Ytapjobndmmkanaa
