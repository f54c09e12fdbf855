/- Contracts. -/
import Derived.Test.YtfpodjfdmfobkaaDoorWa
namespace Go.Proofs.YtfpodjfdmfobkaaDoor
open Go.RowKit
open Go

theorem vi64 {a b : Int} (h : a = b) : Value.int .i64 a = Value.int .i64 b := by rw [h]
theorem mod2 (n : Nat) : (((n : Nat) : Int) % 2 == 1) = decide (n % 2 = 1) := by
  rw [Bool.eq_iff_iff, beq_iff_eq, decide_eq_true_eq]; omega
theorem rchk_w (x : Nat) (hx : x < 18446744073709551616) (w : World) :
    Calls Tryd.prog 18 #[.int .u64 x] w fun e w' => e = .returned (.int .i64 (Ham.chk x)) ∧ w = w' := by
  by_cases h1 : Ham.ones x 64 % 2 = 1
  · have hc := Lib.hid (show Ham.chk x = 1 by unfold Ham.chk; rw [if_pos h1])
    have hm : (((Ham.ones x 64 : Nat) : Int) % 2 == 1) = true := by rw [mod2]; simpa using h1
    clear h1
    go_enter Tryd.func18, Tryd.ntmps18
    go_wp2_with (go_at_call 25; refine (rones_w x hx _).mono ?_; rintro e w' ⟨rfl, rfl⟩)
    go_ret
    exact ⟨by rw [hc.out]; rfl, rfl⟩
  · have hm : (((Ham.ones x 64 : Nat) : Int) % 2 == 1) = false := by rw [mod2]; simpa using h1
    by_cases h2 : Ham.syn x 64 = 0
    · have hc := Lib.hid (show Ham.chk x = 0 by unfold Ham.chk; rw [if_neg h1, if_pos h2])
      have H2 := Lib.hid h2
      clear h1 h2
      go_enter Tryd.func18, Tryd.ntmps18
      go_wp2_with (first | (go_at_call 25; refine (rones_w x hx _).mono ?_; rintro e w' ⟨rfl, rfl⟩) | (go_at_call 24; refine (rsyn_w x hx _).mono ?_; rintro e w' ⟨rfl, rfl⟩; rw [H2.out]))
      go_ret
      exact ⟨by rw [hc.out]; rfl, rfl⟩
    · have hc := Lib.hid (show Ham.chk x = 2 by unfold Ham.chk; rw [if_neg h1, if_neg h2])
      have hn : (((Ham.syn x 64 : Nat) : Int) != 0) = true := by simpa using h2
      clear h1 h2
      go_enter Tryd.func18, Tryd.ntmps18
      go_wp2_with (first | (go_at_call 25; refine (rones_w x hx _).mono ?_; rintro e w' ⟨rfl, rfl⟩) | (go_at_call 24; refine (rsyn_w x hx _).mono ?_; rintro e w' ⟨rfl, rfl⟩))
      go_ret
      exact ⟨by rw [hc.out]; rfl, rfl⟩

set_option maxHeartbeats 400000 in
theorem place_w (i : Nat) (hi : i < 57) (w : World) :
    Calls Tryd.prog 23 #[.int .i64 i] w fun e w' => e = .returned (.int .i64 (Ham.place i)) ∧ w = w' := by
  go_enter Tryd.func23, Tryd.ntmps23
  go_wp2
  go_loop [3, 4] (fun n q => ∃ p : Nat, p ≤ 63 ∧ q = .int .i64 p ∧ n = .int .i64 ((Ham.cnt p : Int) - 1) ∧ Ham.cnt p ≤ i + 1 ∧ (p = 0 ∨ Ham.cnt (p - 1) ≤ i)) (fun _ p => 64 - (intOf p).toNat)
  case atStart => exact ⟨0, by omega, rfl, rfl, by simp [Ham.cnt], .inl rfl⟩
  case round =>
    obtain ⟨p, hp, rfl, rfl, hc, hq⟩ := hrel
    have HQ := Lib.hid hq
    clear hq
    by_cases hlt : Ham.cnt p ≤ i
    · have hp2 : p < 63 := by
        have := Ham.cnt63
        rcases Nat.lt_or_ge p 63 with h | h
        · exact h
        · have : p = 63 := by omega
          subst this; omega
      have H := Lib.hid (show Ham.cnt (p + 1) = Ham.cnt p + (if Ham.isPow (p + 1) then 0 else 1) from rfl)
      cases hb : Ham.isPow (p + 1)
      all_goals
        have HB := Lib.hid hb
        clear hb
        go_wp2_with (go_at_call 32; refine (power_w (p + 1) _).mono ?_; rintro e w' ⟨rfl, rfl⟩; rw [HB.out])
        go_round
        case rel => exact ⟨p + 1, by omega, by go_num, vi64 (by rw [H.out, HB.out]; first | (simp; done) | (simp; omega)), by rw [H.out, HB.out]; first | (simp; done) | (simp; omega), .inr (by simpa using hlt)⟩
        case measure => simp [intOf]; omega
    · go_wp2
      go_ret
      have := Ham.cnt_place i hi p (by omega) (by omega) HQ.out
      exact ⟨by rw [this]; rfl, rfl⟩

set_option maxHeartbeats 400000 in
theorem data_w (x : Nat) (hx : x < 18446744073709551616) (w : World) :
    Calls Tryd.prog 29 #[.int .u64 x] w fun e w' => e = .returned (.int .u64 (Ham.dat x 57)) ∧ w = w' := by
  go_enter Tryd.func29, Tryd.ntmps29
  go_wp2
  go_loop [3, 4] (fun n q => ∃ k : Nat, k ≤ 57 ∧ q = .int .i64 k ∧ n = .int .u64 (Ham.dat x k)) (fun _ p => 57 - (intOf p).toNat)
  case atStart => exact ⟨0, by omega, rfl, rfl⟩
  case round =>
    obtain ⟨k, hk, rfl, rfl⟩ := hrel
    by_cases hlt : k < 57
    · have H := Lib.hid (Ham.dat_step x k)
      have hpl := (Ham.place_lt k hlt).1
      have HO := Lib.hid (or_pow (Ham.dat x k) k (Nat.lt_of_lt_of_le (Ham.dat_lt x k) (Nat.pow_le_pow_right (by decide) (by omega : k ≤ 64))) (by omega))
      cases hb : x.testBit (Ham.place k)
      all_goals
        have HB := Lib.hid hb
        clear hb
        go_wp2_with (first | (go_at_call 23; refine (place_w k hlt _).mono ?_; rintro e w' ⟨rfl, rfl⟩) | (go_at_call 22; refine (rbit_w x hx _ _ hpl).mono ?_; rintro e w' ⟨rfl, rfl⟩; rw [HB.out]))
        go_round
        case rel => exact ⟨k + 1, by omega, by go_num, by rw [H.out, HB.out]; first | rfl | (rw [HO.out]; rfl)⟩
        case measure => simp [intOf]; omega
    · go_wp2
      go_ret
      have : k = 57 := by omega
      subst this
      exact ⟨rfl, rfl⟩

set_option maxHeartbeats 400000 in
theorem syn_w (x : Nat) (hx : x < 18446744073709551616) (w : World) (hT : TabAt Lib.deBruijn64tab w) :
    Calls Tryd.prog 27 #[.int .u64 x] w fun e w' => e = .returned (.int .i64 (Ham.syn x 64)) ∧ w = w' := by
  have HT := Lib.hid hT
  clear hT
  go_enter Tryd.func27, Tryd.ntmps27
  go_wp2
  go_loop [0, 3] (fun q s => ∃ y t : Nat, y < 18446744073709551616 ∧ q = .int .u64 y ∧ s = .int .i64 t ∧ t < 64 ∧ t ^^^ Ham.syn y 64 = Ham.syn x 64) (fun q _ => (intOf q).toNat)
  case atStart => exact ⟨x, 0, hx, rfl, rfl, by decide, Nat.zero_xor _⟩
  case round =>
    obtain ⟨y, t, hy, rfl, rfl, ht, hs⟩ := hrel
    have HS := Lib.hid hs
    clear hs
    by_cases h0 : y = 0
    · subst h0
      go_wp2
      go_ret
      have := HS.out
      rw [show Ham.syn 0 64 = 0 from (Ham.syn_lin 64).zero, Nat.xor_zero] at this
      exact ⟨by rw [← this]; rfl, rfl⟩
    · have hk := (Ham.clear_low y h0 hy).2
      have HC := Lib.hid (Ham.syn_clear y h0 hy)
      have hlt := Ham.clear_lt y h0
      have hn : (((y : Nat) : Int) != 0) = true := by simpa using h0
      have h1 : 1 ≤ y := by omega
      have HX := Lib.hid (i64_xor t (Lib.ctz 64 y) (by omega) (by omega))
      have HA := Lib.hid (bits_and_u64_nat y (y - 1) hy (by omega))
      have HY : ((y : Int) - 1) = ((y - 1 : Nat) : Int) := by omega
      have HY' := Lib.hid HY
      clear HY
      go_wp2_with (go_at_call 33; refine (tz_w y hy h0 _ HT.out).mono ?_; rintro e w' ⟨rfl, rfl⟩)
      go_round
      case rel =>
        refine ⟨y &&& (y - 1), t ^^^ Lib.ctz 64 y, by omega, ?_, by rw [HX.out], Ham.xor_lt (n := 6) ht hk, ?_⟩
        · rw [HY'.out, HA.out]
        · rw [← HS.out, HC.out, Nat.xor_assoc]
      case measure =>
        rw [HY'.out, HA.out]
        simp [intOf]; omega
theorem chk_w (x : Nat) (hx : x < 18446744073709551616) (w : World) (hT : TabAt Lib.deBruijn64tab w) :
    Calls Tryd.prog 17 #[.int .u64 x] w fun e w' => e = .returned (.int .i64 (Ham.chk x)) ∧ w = w' := by
  have HT := Lib.hid hT
  clear hT
  by_cases h1 : Ham.ones x 64 % 2 = 1
  · have hc := Lib.hid (show Ham.chk x = 1 by unfold Ham.chk; rw [if_pos h1])
    have hm : (((Ham.ones x 64 : Nat) : Int) % 2 == 1) = true := by rw [mod2]; simpa using h1
    clear h1
    go_enter Tryd.func17, Tryd.ntmps17
    go_wp2_with (go_at_call 26; refine (pop_w x hx _).mono ?_; rintro e w' ⟨rfl, rfl⟩)
    go_ret
    exact ⟨by rw [hc.out]; rfl, rfl⟩
  · have hm : (((Ham.ones x 64 : Nat) : Int) % 2 == 1) = false := by rw [mod2]; simpa using h1
    by_cases h2 : Ham.syn x 64 = 0
    · have hc := Lib.hid (show Ham.chk x = 0 by unfold Ham.chk; rw [if_neg h1, if_pos h2])
      have H2 := Lib.hid h2
      clear h1 h2
      go_enter Tryd.func17, Tryd.ntmps17
      go_wp2_with (first | (go_at_call 26; refine (pop_w x hx _).mono ?_; rintro e w' ⟨rfl, rfl⟩) | (go_at_call 27; refine (syn_w x hx _ HT.out).mono ?_; rintro e w' ⟨rfl, rfl⟩; rw [H2.out]))
      go_ret
      exact ⟨by rw [hc.out]; rfl, rfl⟩
    · have hc := Lib.hid (show Ham.chk x = 2 by unfold Ham.chk; rw [if_neg h1, if_neg h2])
      have hn : (((Ham.syn x 64 : Nat) : Int) != 0) = true := by simpa using h2
      clear h1 h2
      go_enter Tryd.func17, Tryd.ntmps17
      go_wp2_with (first | (go_at_call 26; refine (pop_w x hx _).mono ?_; rintro e w' ⟨rfl, rfl⟩) | (go_at_call 27; refine (syn_w x hx _ HT.out).mono ?_; rintro e w' ⟨rfl, rfl⟩))
      go_ret
      exact ⟨by rw [hc.out]; rfl, rfl⟩
