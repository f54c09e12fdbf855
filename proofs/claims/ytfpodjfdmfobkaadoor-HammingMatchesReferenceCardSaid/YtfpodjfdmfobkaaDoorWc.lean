/- Contracts: the reference's encoder and decoder. -/
import Derived.Test.YtfpodjfdmfobkaaDoorWb
namespace Go.Proofs.YtfpodjfdmfobkaaDoor
open Go.RowKit
open Go
theorem vu64 {a b : Int} (h : a = b) : Value.int .u64 a = Value.int .u64 b := by rw [h]
def Word (w e : Int) : Value := .agg #[.int .u64 w, .int .i64 e]
def Decd (d f e : Int) : Value := .agg #[.int .u64 d, .int .i64 f, .int .i64 e]

def decV (x : Nat) : Value := if Ham.chk x = 0 then Decd (Ham.dat x 57) 0 0 else if Ham.chk x = 1 then Decd (Ham.dat (x ^^^ 2 ^ Ham.syn x 64) 57) 1 0 else Decd 0 0 6
theorem decV0 {x : Nat} (h : Ham.chk x = 0) : decV x = Decd (Ham.dat x 57) 0 0 := by unfold decV; rw [if_pos h]
theorem decV1 {x : Nat} (h : Ham.chk x = 1) : decV x = Decd (Ham.dat (x ^^^ 2 ^ Ham.syn x 64) 57) 1 0 := by unfold decV; rw [if_neg (by omega), if_pos h]
theorem decV2 {x : Nat} (h : Ham.chk x = 2) : decV x = Decd 0 0 6 := by unfold decV; rw [if_neg (by omega), if_neg (by omega)]
theorem x64 (x k : Nat) (hx : x < 18446744073709551616) (hk : k < 64) : x ^^^ 2 ^ k < 18446744073709551616 := Ham.xor_lt (n := 64) hx (Nat.pow_lt_pow_right (by decide) hk)
set_option maxHeartbeats 400000 in
theorem rdec_w (x : Nat) (hx : x < 18446744073709551616) (w : World) :
    Calls Tryd.prog 20 #[.int .u64 x] w fun e w' => e = .returned (decV x) ∧ Below w.heap.size w w' := by
  have hc := Ham.chk_le x
  have hsl := Ham.syn_lt x 64 (by decide)
  have hxx := x64 x _ hx hsl
  obtain h | h | h : Ham.chk x = 0 ∨ Ham.chk x = 1 ∨ Ham.chk x = 2 := by omega
  · have H := Lib.hid h
    have HV := Lib.hid (decV0 h)
    clear h hc
    go_enter Tryd.func20, Tryd.ntmps20
    go_wp2_with (first | (go_at_call 18; refine (rchk_w x hx _).mono ?_; rintro e w' ⟨rfl, rfl⟩; rw [H.out]) | (go_at_call 29; refine (data_w x hx _).mono ?_; rintro e w' ⟨rfl, rfl⟩))
    exact bodyPost_ret (v := Decd (Ham.dat x 57) 0 0) (by simp [results, Tryd.results20, go_sem, Decd]) rfl ⟨by rw [HV.out], (Below.refl _ _).alloc (Nat.le_refl _) _⟩
  · have H := Lib.hid h
    have HV := Lib.hid (decV1 h)
    clear h hc
    go_enter Tryd.func20, Tryd.ntmps20
    go_wp2_with (first | (go_at_call 18; refine (rchk_w x hx _).mono ?_; rintro e w' ⟨rfl, rfl⟩; rw [H.out]) | (go_at_call 24; refine (rsyn_w x hx _).mono ?_; rintro e w' ⟨rfl, rfl⟩) | (go_at_call 14; refine (rflip_on x hx _ _ hsl).mono ?_; rintro e w' ⟨rfl, rfl⟩) | (go_at_call 29; refine (data_w _ hxx _).mono ?_; rintro e w' ⟨rfl, rfl⟩))
    exact bodyPost_ret (v := Decd (Ham.dat (x ^^^ 2 ^ Ham.syn x 64) 57) 1 0) (by simp [results, Tryd.results20, go_sem, Decd]) rfl ⟨by rw [HV.out], (Below.refl _ _).alloc (Nat.le_refl _) _⟩
  · have H := Lib.hid h
    have HV := Lib.hid (decV2 h)
    clear h hc
    go_enter Tryd.func20, Tryd.ntmps20
    go_wp2_with (first | (go_at_call 18; refine (rchk_w x hx _).mono ?_; rintro e w' ⟨rfl, rfl⟩; rw [H.out]))
    exact bodyPost_ret (v := Decd 0 0 6) (by simp [results, Tryd.results20, go_sem, Decd]) rfl ⟨by rw [HV.out], (Below.refl _ _).alloc (Nat.le_refl _) _⟩

def encV (d : Nat) : Value := if d < 144115188075855872 then Word (Ham.enc d) 0 else Word 0 1
theorem encV0 {d : Nat} (h : d < 144115188075855872) : encV d = Word (Ham.enc d) 0 := by unfold encV; rw [if_pos h]
theorem encV1 {d : Nat} (h : ¬ d < 144115188075855872) : encV d = Word 0 1 := by unfold encV; rw [if_neg h]
theorem renc_no (d : Nat) (hd : ¬ d < 144115188075855872) (hx : d < 18446744073709551616) (w : World) :
    Calls Tryd.prog 11 #[.int .u64 d] w fun e w' => e = .returned (encV d) ∧ Below w.heap.size w w' := by
  have HV := Lib.hid (encV1 hd)
  have h1 : (((d : Int) / 144115188075855872) != 0) = true := by rw [bne_iff_ne]; omega
  go_enter Tryd.func11, Tryd.ntmps11
  go_wp2
  exact bodyPost_ret (v := Word 0 1) (by simp [results, Tryd.results11, go_sem, Word]) rfl ⟨by rw [HV.out], (Below.refl _ _).alloc (Nat.le_refl _) _⟩
theorem tb_int (s k : Nat) (hs : s < 64) : (bits .and .i64 ((s : Int) / (2 : Int) ^ k) 1 == 1) = s.testBit k := by
  have hd : s / 2 ^ k ≤ s := Nat.div_le_self _ _
  have e : (s : Int) / (2 : Int) ^ k = ((s / 2 ^ k : Nat) : Int) := by simp
  rw [e]
  have := i64_and (s / 2 ^ k) 1 (by omega) (by decide)
  rw [bit_num] at this
  rw [show (1 : Int) = ((1 : Nat) : Int) from rfl, this]
  cases s.testBit k <;> rfl
set_option maxHeartbeats 1000000 in
theorem renc_yes (d : Nat) (hd : d < 144115188075855872) (w : World) :
    Calls Tryd.prog 11 #[.int .u64 d] w fun e w' => e = .returned (encV d) ∧ Below w.heap.size w w' := by
  have HV := Lib.hid (encV0 hd)
  have hx : d < 18446744073709551616 := by omega
  have h1 : (((d : Int) / 144115188075855872) != 0) = false := by rw [bne_eq_false_iff_eq]; omega
  go_enter Tryd.func11, Tryd.ntmps11
  go_wp2
  go_loop [3, 4] (fun n q => ∃ k : Nat, k ≤ 57 ∧ q = .int .i64 k ∧ n = .int .u64 (Ham.base d k)) (fun _ p => 57 - (intOf p).toNat)
  case atStart => exact ⟨0, by omega, rfl, rfl⟩
  case round =>
    obtain ⟨k, hk, rfl, rfl⟩ := hrel
    by_cases hlt : k < 57
    · have H := Lib.hid (Ham.base_step d k hlt)
      have hpl := (Ham.place_lt k hlt).1
      have HO := Lib.hid (or_pow (Ham.base d k) (Ham.place k) (Ham.base_lt d k hk) hpl)
      cases hb : d.testBit k
      all_goals
        have HB := Lib.hid hb
        clear hb
        go_wp2_with (first | (go_at_call 23; refine (place_w k hlt _).mono ?_; rintro e w' ⟨rfl, rfl⟩) | (go_at_call 22; refine (rbit_w d hx k _ (by omega)).mono ?_; rintro e w' ⟨rfl, rfl⟩; rw [HB.out]))
        go_round
        case rel => exact ⟨k + 1, by omega, by go_num, by rw [H.out, HB.out]; first | rfl | (rw [HO.out]; rfl)⟩
        case measure => simp [intOf]; omega
    · have : k = 57 := by omega
      subst this
      have hbl := Ham.base_lt d 57 (by decide)
      have hsl := Ham.syn_lt (Ham.base d 57) 64 (by decide)
      obtain ⟨s, hs⟩ : ∃ s, Ham.syn (Ham.base d 57) 64 = s := ⟨_, rfl⟩
      rw [hs] at hsl
      have HS := Lib.hid hs
      clear hs
      go_wp2_with (go_at_call 24; refine (rsyn_w _ hbl _).mono ?_; rintro e w' ⟨rfl, rfl⟩; rw [HS.out])
      go_loop [3, 6] (fun n q => ∃ k : Nat, k ≤ 6 ∧ q = .int .i64 k ∧ n = .int .u64 (Ham.body d k)) (fun _ p => 6 - (intOf p).toNat)
      case atStart => exact ⟨0, by omega, rfl, by rw [show Ham.body d 0 = Ham.base d 57 from Nat.xor_zero _]⟩
      case round =>
        obtain ⟨k, hk, rfl, rfl⟩ := hrel
        by_cases hlt : k < 6
        · have H := Lib.hid (Ham.body_step d k hlt)
          have hp : 2 ^ k < 64 := (Ham.pow_inj k hlt).1.1
          have HO := Lib.hid (or_pow (Ham.body d k) (2 ^ k) (Ham.body_lt d k (by omega)) hp)
          have ht := tb_int s k hsl
          cases hb : s.testBit k
          all_goals
            rw [hb] at ht
            have HB := Lib.hid hb
            clear hb
            obtain rfl | rfl | rfl | rfl | rfl | rfl : k = 0 ∨ k = 1 ∨ k = 2 ∨ k = 3 ∨ k = 4 ∨ k = 5 := by omega
            all_goals
              first | simp only [Int.reducePow, Int.ediv_one] at ht | simp only [Int.reducePow] at ht
              go_wp2
              go_round
              case rel => exact ⟨_, by decide, rfl, by rw [H.out, HS.out, HB.out]; first | rfl | (exact vu64 HO.out)⟩
              case measure => simp [intOf]
        · have : k = 6 := by omega
          subst this
          have hbl2 := Ham.body_lt d 6 (by decide)
          have HO := Lib.hid (bits_or_u64_nat (Ham.body d 6) 1 hbl2 (by decide))
          by_cases h1 : Ham.ones (Ham.body d 6) 64 % 2 = 1
          · have hc := Lib.hid (show Ham.enc d = Ham.body d 6 ||| 1 by unfold Ham.enc; rw [if_pos h1])
            have hm : (((Ham.ones (Ham.body d 6) 64 : Nat) : Int) % 2 == 1) = true := by rw [mod2]; simpa using h1
            clear h1
            go_wp2_with (go_at_call 25; refine (rones_w _ hbl2 _).mono ?_; rintro e w' ⟨rfl, rfl⟩)
            exact bodyPost_ret (v := Word (Ham.enc d) 0) (by rw [hc.out]; simp [results, Tryd.results11, go_sem, Word]; exact HO.out) rfl ⟨by rw [HV.out], (Below.refl _ _).alloc (Nat.le_refl _) _⟩
          · have hc := Lib.hid (show Ham.enc d = Ham.body d 6 by unfold Ham.enc; rw [if_neg h1])
            have hm : (((Ham.ones (Ham.body d 6) 64 : Nat) : Int) % 2 == 1) = false := by rw [mod2]; simpa using h1
            clear h1
            go_wp2_with (go_at_call 25; refine (rones_w _ hbl2 _).mono ?_; rintro e w' ⟨rfl, rfl⟩)
            exact bodyPost_ret (v := Word (Ham.enc d) 0) (by rw [hc.out]; simp [results, Tryd.results11, go_sem, Word]) rfl ⟨by rw [HV.out], (Below.refl _ _).alloc (Nat.le_refl _) _⟩
theorem renc_w (d : Nat) (hx : d < 18446744073709551616) (w : World) :
    Calls Tryd.prog 11 #[.int .u64 d] w fun e w' => e = .returned (encV d) ∧ Below w.heap.size w w' := by
  by_cases h : d < 144115188075855872
  · exact renc_yes d h w
  · exact renc_no d h hx w
