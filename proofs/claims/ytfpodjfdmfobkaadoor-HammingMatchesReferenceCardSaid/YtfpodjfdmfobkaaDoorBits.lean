/- Contracts of the functions on bits. -/
import Derived.WalkKit
import Derived.WalkLawsBesides
import Derived.Laws.Bits64b
import Derived.Laws.Bits128
import Derived.Laws.ShiftsVarLaws
import Derived.Outline
import Derived.Test.YtfpodjfdmfobkaaDoorProg
import Derived.Test.YtfpodjfdmfobkaaDoorMath
namespace Go.Proofs.YtfpodjfdmfobkaaDoor
open Go.RowKit
open Go

theorem i64_wrap (n : Int) (h1 : -9223372036854775808 ≤ n) (h2 : n < 9223372036854775808) : IntKind.i64.wrap n = n := by
  simp [IntKind.wrap, IntKind.bits, IntKind.signed]; omega
theorem ofInt64 (a : Nat) (ha : a < 18446744073709551616) : (BitVec.ofInt 64 (a : Int)).toNat = a := by
  rw [BitVec.ofInt_natCast, BitVec.toNat_ofNat]; exact Nat.mod_eq_of_lt (by omega)
theorem i64_and (a b : Nat) (ha : a < 9223372036854775808) (hb : b < 9223372036854775808) : bits .and .i64 (a : Int) (b : Int) = ((a &&& b : Nat) : Int) := by
  have hx : a &&& b < 2 ^ 63 := Nat.and_lt_two_pow _ (by omega)
  show IntKind.i64.wrap ((BitVec.ofInt 64 (a : Int) &&& BitVec.ofInt 64 (b : Int)).toNat : Int) = _
  rw [BitVec.toNat_and, ofInt64 a (by omega), ofInt64 b (by omega), i64_wrap _ (by omega) (by omega)]
theorem i64_xor (a b : Nat) (ha : a < 9223372036854775808) (hb : b < 9223372036854775808) : bits .xor .i64 (a : Int) (b : Int) = ((a ^^^ b : Nat) : Int) := by
  have hx : a ^^^ b < 2 ^ 63 := Nat.xor_lt_two_pow (by omega) (by omega)
  show IntKind.i64.wrap ((BitVec.ofInt 64 (a : Int) ^^^ BitVec.ofInt 64 (b : Int)).toNat : Int) = _
  rw [BitVec.toNat_xor, ofInt64 a (by omega), ofInt64 b (by omega), i64_wrap _ (by omega) (by omega)]

abbrev W64 (n : Int) : Int := IntKind.u64.wrap n
abbrev BA (a b : Int) : Int := bits .and .u64 a b
def popI (x : Int) : Int :=
  let a := W64 (BA (x / 2) 6148914691236517205 + BA x 6148914691236517205)
  let b := W64 (BA (a / 4) 3689348814741910323 + BA a 3689348814741910323)
  let c := BA (W64 (b / 16 + b)) 1085102592571150095
  let d := W64 (c + c / 256)
  let e := W64 (d + d / 65536)
  W64 (e + e / 4294967296)
theorem W64_nat (a : Nat) (h : a < 18446744073709551616) : W64 (a : Int) = (a : Int) := by unfold W64; rw [IntKind.wrap_u64]; omega
theorem BA_nat (a b : Nat) (ha : a < 18446744073709551616) (hb : b < 18446744073709551616) : BA (a : Int) (b : Int) = ((a &&& b : Nat) : Int) := bits_and_u64_nat a b ha hb
theorem BA_lit {a : Nat} (b : Nat) (c : Int) (hc : (b : Int) = c) (ha : a < 18446744073709551616) (hb : b < 18446744073709551616) : BA (a : Int) c = ((a &&& b : Nat) : Int) := by rw [← hc]; exact BA_nat a b ha hb
theorem Ham.and_le (a b c : Nat) (h : b ≤ c) : a &&& b ≤ c := Nat.le_trans Nat.and_le_right h
theorem popI_eq (x : Nat) (hx : x < 18446744073709551616) : popI (x : Int) % 128 = ((Ham.ones x 64 : Nat) : Int) := by
  obtain ⟨hp, hs⟩ := Ham.pop_ones x
  rw [← hp]
  unfold popI
  have r0 : Ham.rep 85 8 = 6148914691236517205 := by decide
  have r1 : Ham.rep 51 8 = 3689348814741910323 := by decide
  have r2 : Ham.rep 15 8 = 1085102592571150095 := by decide
  have e1 : W64 (BA ((x : Int) / 2) 6148914691236517205 + BA x 6148914691236517205) = ((Ham.p1 8 x : Nat) : Int) ∧ Ham.p1 8 x < 13000000000000000000 := by
    have h1 := Ham.and_le (x / 2) 6148914691236517205 _ (Nat.le_refl _)
    have h2 := Ham.and_le x 6148914691236517205 _ (Nat.le_refl _)
    unfold Ham.p1
    rw [r0, show (x : Int) / 2 = ((x / 2 : Nat) : Int) by omega, BA_lit 6148914691236517205 6148914691236517205 rfl (by omega) (by decide), BA_lit 6148914691236517205 6148914691236517205 rfl hx (by decide), ← Int.natCast_add, W64_nat _ (by omega)]
    exact ⟨rfl, by omega⟩
  rw [e1.1]
  have e2 : W64 (BA (((Ham.p1 8 x : Nat) : Int) / 4) 3689348814741910323 + BA ((Ham.p1 8 x : Nat) : Int) 3689348814741910323) = ((Ham.p2 8 (Ham.p1 8 x) : Nat) : Int) ∧ Ham.p2 8 (Ham.p1 8 x) < 8000000000000000000 := by
    have hl := e1.2
    generalize Ham.p1 8 x = y at *
    have h1 := Ham.and_le (y / 4) 3689348814741910323 _ (Nat.le_refl _)
    have h2 := Ham.and_le y 3689348814741910323 _ (Nat.le_refl _)
    unfold Ham.p2
    rw [r1, show (y : Int) / 4 = ((y / 4 : Nat) : Int) by omega, BA_lit 3689348814741910323 3689348814741910323 rfl (by omega) (by decide), BA_lit 3689348814741910323 3689348814741910323 rfl (by omega) (by decide), ← Int.natCast_add, W64_nat _ (by omega)]
    exact ⟨rfl, by omega⟩
  dsimp only
  rw [e2.1]
  have e3 : BA (W64 (((Ham.p2 8 (Ham.p1 8 x) : Nat) : Int) / 16 + ((Ham.p2 8 (Ham.p1 8 x) : Nat) : Int))) 1085102592571150095 = ((Ham.sum8 8 x : Nat) : Int) := by
    have hl := e2.2
    unfold Ham.sum8
    generalize Ham.p2 8 (Ham.p1 8 x) = y at *
    unfold Ham.p3
    rw [r2, show (y : Int) / 16 + (y : Int) = ((y / 16 + y : Nat) : Int) by omega, W64_nat _ (by omega), BA_lit 1085102592571150095 1085102592571150095 rfl (by omega) (by decide)]
  rw [e3]
  unfold Ham.pop
  generalize Ham.sum8 8 x = c at *
  dsimp only
  have f1 : (c : Int) + (c : Int) / 256 = ((c + c / 256 : Nat) : Int) := by omega
  have hd : c + c / 256 < 2000000000000000000 := by omega
  rw [f1, W64_nat _ (by omega)]
  generalize c + c / 256 = d at *
  have f2 : (d : Int) + (d : Int) / 65536 = ((d + d / 65536 : Nat) : Int) := by omega
  have he : d + d / 65536 < 4000000000000000000 := by omega
  rw [f2, W64_nat _ (by omega)]
  generalize d + d / 65536 = e at *
  have f3 : (e : Int) + (e : Int) / 4294967296 = ((e + e / 4294967296 : Nat) : Int) := by omega
  rw [f3, W64_nat _ (by omega)]
  omega

theorem i64_and127w (n : Int) : bits .and .i64 (wrap64 n) 127 = n % 128 := by
  rw [i64_and127]; unfold wrap64; omega
theorem ret_i64 {a b : Int} (h : a = b) : Ending.returned (.int .i64 a) = .returned (.int .i64 b) := by rw [h]

set_option maxHeartbeats 400000 in
theorem pop_w (x : Nat) (hx : x < 18446744073709551616) (w : World) :
    Calls Tryd.prog 26 #[.int .u64 x] w fun e w' => e = .returned (.int .i64 (Ham.ones x 64)) ∧ w = w' := by
  go_enter Tryd.func26, Tryd.ntmps26
  go_wp2
  go_ret
  exact ⟨ret_i64 ((i64_and127w _).trans (popI_eq x hx)), rfl⟩
