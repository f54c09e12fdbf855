/- Contracts. -/
import Derived.BigQuiet
import Derived.Lib.Hide
import Derived.Test.YtfpodjfdmfobkaaDoorBits
namespace Go.Proofs.YtfpodjfdmfobkaaDoor
open Go.RowKit
open Go

def TabAt (tab : List Nat) (w : World) : Prop := ∀ j, j < tab.length → w.cell? ⟨0, j, none⟩ = some (.int .u8 (tab.getD j 0))

theorem tz_core (x k idx : Nat) (w : World) (hx0 : ((x : Int) == 0) = false)
    (key : IntKind.u64.wrap (bits BinOp.and IntKind.u64 (x : Int) (IntKind.u64.wrap (-(x : Int))) * 285870213051353865) / 288230376151711744 = (idx : Int))
    (hi : idx < 64) (hk : k < 64) (hcell : w.cell? ⟨0, idx, none⟩ = some (.int .u8 k)) :
    Calls Tryd.prog 33 #[.int .u64 x] w fun e w' => e = .returned (.int .i64 k) ∧ w = w' := by
  go_enter Tryd.func33, Tryd.ntmps33
  go_wp2_with (simp only [key])
  go_ret
  exact ⟨rfl, rfl⟩
theorem tz_key (x a : Nat) (hx : x < 18446744073709551616) (hx0 : x ≠ 0) (hlow : x &&& (18446744073709551616 - x) = a) :
    IntKind.u64.wrap (bits BinOp.and IntKind.u64 (x : Int) (IntKind.u64.wrap (-(x : Int))) * 285870213051353865) / 288230376151711744 = ((a * 285870213051353865 % 18446744073709551616 / 288230376151711744 : Nat) : Int) := by
  have e1 : IntKind.u64.wrap (-(x : Int)) = ((18446744073709551616 - x : Nat) : Int) := by rw [IntKind.wrap_u64]; omega
  rw [e1, bits_and_u64_nat x _ hx (by omega), hlow, IntKind.wrap_u64]
  omega
theorem tz_w (x : Nat) (hx : x < 18446744073709551616) (hx0 : x ≠ 0) (w : World) (hT : TabAt Lib.deBruijn64tab w) :
    Calls Tryd.prog 33 #[.int .u64 x] w fun e w' => e = .returned (.int .i64 (Lib.ctz 64 x)) ∧ w = w' := by
  obtain ⟨hlow, hk⟩ := Lib.lowest_bit 64 x hx0 hx
  obtain ⟨hi, htab⟩ := Lib.deBruijn64_at _ hk
  have hcell := hT _ hi
  rw [htab] at hcell
  exact tz_core x _ _ w (by simp; omega) (tz_key x _ hx hx0 hlow) hi hk hcell

theorem flip_off (x : Nat) (i : Int) (w : World) (h : i < 0 ∨ 63 < i) :
    Calls Tryd.prog 13 #[.int .u64 x, .int .i64 i] w fun e w' => e = .returned (.int .u64 x) ∧ w = w' := by
  rcases h with h | h
  · go_enter Tryd.func13, Tryd.ntmps13
    go_wp2
    go_ret
    exact ⟨rfl, rfl⟩
  · have h' : ¬ i < 0 := by omega
    go_enter Tryd.func13, Tryd.ntmps13
    go_wp2
    go_ret
    exact ⟨rfl, rfl⟩
theorem pow64 (i : Nat) (hi : i < 64) : (2 : Nat) ^ i < 18446744073709551616 := Nat.pow_lt_pow_right (by decide) hi
theorem wpow (i : Nat) (hi : i < 64) : IntKind.u64.wrap ((2 : Int) ^ i) = ((2 ^ i : Nat) : Int) := by
  have := pow64 i hi
  have e : ((2 : Int) ^ i) = ((2 ^ i : Nat) : Int) := by simp
  rw [IntKind.wrap_u64, e]
  generalize (2 : Nat) ^ i = k at *
  omega
theorem ret_u64 {a b : Int} (h : a = b) : Ending.returned (.int .u64 a) = .returned (.int .u64 b) := by rw [h]
theorem ret_bool {a b : Bool} (h : a = b) : Ending.returned (.bool a) = .returned (.bool b) := by rw [h]
theorem xor_pow (x i : Nat) (hx : x < 18446744073709551616) (hi : i < 64) : bits .xor .u64 (x : Int) (IntKind.u64.wrap ((2 : Int) ^ i)) = ((x ^^^ 2 ^ i : Nat) : Int) := by
  rw [wpow i hi, bits_xor_u64_nat x (2 ^ i) hx (pow64 i hi)]
theorem or_pow (x i : Nat) (hx : x < 18446744073709551616) (hi : i < 64) : bits .or .u64 (x : Int) (IntKind.u64.wrap ((2 : Int) ^ i)) = ((x ||| 2 ^ i : Nat) : Int) := by
  rw [wpow i hi, bits_or_u64_nat x (2 ^ i) hx (pow64 i hi)]
theorem flip_on (x : Nat) (hx : x < 18446744073709551616) (i : Nat) (w : World) (hi : i < 64) :
    Calls Tryd.prog 13 #[.int .u64 x, .int .i64 i] w fun e w' => e = .returned (.int .u64 (x ^^^ 2 ^ i : Nat)) ∧ w = w' := by
  go_enter Tryd.func13, Tryd.ntmps13
  go_wp2
  go_ret
  exact ⟨ret_u64 (xor_pow x i hx hi), rfl⟩
theorem rflip_on (x : Nat) (hx : x < 18446744073709551616) (i : Nat) (w : World) (hi : i < 64) :
    Calls Tryd.prog 14 #[.int .u64 x, .int .i64 i] w fun e w' => e = .returned (.int .u64 (x ^^^ 2 ^ i : Nat)) ∧ w = w' := by
  go_enter Tryd.func14, Tryd.ntmps14
  go_wp2
  go_ret
  exact ⟨ret_u64 (xor_pow x i hx hi), rfl⟩
theorem rflip_off (x : Nat) (i : Int) (w : World) (h : i < 0 ∨ 63 < i) :
    Calls Tryd.prog 14 #[.int .u64 x, .int .i64 i] w fun e w' => e = .returned (.int .u64 x) ∧ w = w' := by
  rcases h with h | h
  · go_enter Tryd.func14, Tryd.ntmps14
    go_wp2
    go_ret
    exact ⟨rfl, rfl⟩
  · have h' : ¬ i < 0 := by omega
    go_enter Tryd.func14, Tryd.ntmps14
    go_wp2
    go_ret
    exact ⟨rfl, rfl⟩
theorem bit_num (x i : Nat) : (x / 2 ^ i) &&& 1 = if x.testBit i then 1 else 0 := by
  rw [Nat.and_one_is_mod, Nat.testBit_eq_decide_div_mod_eq]
  split
  · rename_i h; simpa using h
  · rename_i h; simp at h; omega
theorem bitI (x i : Nat) (hx : x < 18446744073709551616) : bits .and .u64 ((x : Int) / (2 : Int) ^ i) 1 = if x.testBit i then 1 else 0 := by
  have hd : x / 2 ^ i ≤ x := Nat.div_le_self _ _
  have e : (x : Int) / (2 : Int) ^ i = ((x / 2 ^ i : Nat) : Int) := by simp
  rw [e]
  have := bits_and_u64_nat (x / 2 ^ i) 1 (by omega) (by decide)
  rw [bit_num] at this
  rw [show (1 : Int) = ((1 : Nat) : Int) from rfl, this]
  split <;> rfl
theorem bitB (x i : Nat) (hx : x < 18446744073709551616) : (bits .and .u64 ((x : Int) / (2 : Int) ^ i) 1 == 1) = x.testBit i := by
  rw [bitI x i hx]; cases x.testBit i <;> rfl
theorem rbit_w (x : Nat) (hx : x < 18446744073709551616) (i : Nat) (w : World) (hi : i < 64) :
    Calls Tryd.prog 22 #[.int .u64 x, .int .i64 i] w fun e w' => e = .returned (.bool (x.testBit i)) ∧ w = w' := by
  go_enter Tryd.func22, Tryd.ntmps22
  go_wp2
  go_ret
  exact ⟨ret_bool (bitB x i hx), rfl⟩
theorem isPow_t {p : Nat} (q : Nat) (h : (p : Int) = (q : Int)) (hq : Ham.isPow q = true) : Ham.isPow p = true := by
  have : p = q := by omega
  rw [this]; exact hq
theorem isPow_w (p : Nat) : ((p : Int) == 1 || (p : Int) == 2 || (p : Int) == 4 || (p : Int) == 8 || (p : Int) == 16 || (p : Int) == 32) = Ham.isPow p := by
  unfold Ham.isPow
  have e : ∀ q : Nat, ((p : Int) == (q : Int)) = (p == q) := fun q => by rw [Bool.eq_iff_iff, beq_iff_eq, beq_iff_eq]; omega
  rw [← e 1, ← e 2, ← e 4, ← e 8, ← e 16, ← e 32]; rfl
theorem power_w (p : Nat) (w : World) :
    Calls Tryd.prog 32 #[.int .i64 p] w fun e w' => e = .returned (.bool (Ham.isPow p)) ∧ w = w' := by
  go_enter Tryd.func32, Tryd.ntmps32
  go_wp2
  all_goals go_ret
  · exact ⟨ret_bool (isPow_t 1 (by assumption) rfl).symm, rfl⟩
  · exact ⟨ret_bool (isPow_t 2 (by assumption) rfl).symm, rfl⟩
  · exact ⟨ret_bool (isPow_t 4 (by assumption) rfl).symm, rfl⟩
  · exact ⟨ret_bool (isPow_t 8 (by assumption) rfl).symm, rfl⟩
  · exact ⟨ret_bool (isPow_t 16 (by assumption) rfl).symm, rfl⟩
  · exact ⟨ret_bool (isPow_w p), rfl⟩

/-! ### Loops of the reference -/
set_option maxHeartbeats 400000 in
theorem rones_w (x : Nat) (hx : x < 18446744073709551616) (w : World) :
    Calls Tryd.prog 25 #[.int .u64 x] w fun e w' => e = .returned (.int .i64 (Ham.ones x 64)) ∧ w = w' := by
  go_enter Tryd.func25, Tryd.ntmps25
  go_wp2
  go_loop [3, 4] (fun n p => ∃ k : Nat, k ≤ 64 ∧ p = .int .i64 k ∧ n = .int .i64 (Ham.ones x k)) (fun _ p => 64 - (intOf p).toNat)
  case atStart => exact ⟨0, by omega, rfl, rfl⟩
  case round =>
    obtain ⟨k, hk, rfl, rfl⟩ := hrel
    have hle := Ham.ones_le x k
    by_cases hlt : k < 64
    · have hs : Ham.ones x (k + 1) = Ham.ones x k + (if x.testBit k then 1 else 0) := rfl
      have H := Lib.hid hs
      clear hs
      cases hb : x.testBit k
      all_goals
        have HB := Lib.hid hb
        clear hb
        go_wp2_with (go_at_call 22; refine (rbit_w x hx k _ hlt).mono ?_; rintro e w' ⟨rfl, rfl⟩; rw [HB.out])
        go_round
        case rel => exact ⟨k + 1, by omega, by go_num, by rw [H.out, HB.out]; first | rfl | go_num⟩
        case measure => simp [intOf]; omega
    · go_wp2
      go_ret
      have : k = 64 := by omega
      subst this
      exact ⟨rfl, rfl⟩
set_option maxHeartbeats 400000 in
theorem rsyn_w (x : Nat) (hx : x < 18446744073709551616) (w : World) :
    Calls Tryd.prog 24 #[.int .u64 x] w fun e w' => e = .returned (.int .i64 (Ham.syn x 64)) ∧ w = w' := by
  go_enter Tryd.func24, Tryd.ntmps24
  go_wp2
  go_loop [3, 4] (fun n p => ∃ k : Nat, k ≤ 64 ∧ p = .int .i64 k ∧ n = .int .i64 (Ham.syn x k)) (fun _ p => 64 - (intOf p).toNat)
  case atStart => exact ⟨0, by omega, rfl, rfl⟩
  case round =>
    obtain ⟨k, hk, rfl, rfl⟩ := hrel
    have hle := Ham.syn_lt x k hk
    by_cases hlt : k < 64
    · have hs : Ham.syn x (k + 1) = if x.testBit k then Ham.syn x k ^^^ k else Ham.syn x k := rfl
      have H := Lib.hid hs
      clear hs
      have hx2 := Lib.hid (i64_xor (Ham.syn x k) k (by omega) (by omega))
      cases hb : x.testBit k
      all_goals
        have HB := Lib.hid hb
        clear hb
        go_wp2_with (go_at_call 22; refine (rbit_w x hx k _ hlt).mono ?_; rintro e w' ⟨rfl, rfl⟩; rw [HB.out])
        go_round
        case rel => exact ⟨k + 1, by omega, by go_num, by rw [H.out, HB.out]; first | rfl | (rw [hx2.out]; rfl)⟩
        case measure => simp [intOf]; omega
    · go_wp2
      go_ret
      have : k = 64 := by omega
      subst this
      exact ⟨rfl, rfl⟩
theorem dist_w (x y : Nat) (hx : x < 18446744073709551616) (hy : y < 18446744073709551616) (w : World) :
    Calls Tryd.prog 15 #[.int .u64 x, .int .u64 y] w fun e w' => e = .returned (.int .i64 (Ham.ones (x ^^^ y) 64)) ∧ w = w' := by
  have hxy : x ^^^ y < 18446744073709551616 := Ham.xor_lt (n := 64) hx hy
  have he := bits_xor_u64_nat x y hx hy
  go_enter Tryd.func15, Tryd.ntmps15
  go_wp2_with (go_at_call 26; refine (pop_w _ hxy _).mono ?_; rintro e w' ⟨rfl, rfl⟩)
  go_ret
  exact ⟨rfl, rfl⟩
