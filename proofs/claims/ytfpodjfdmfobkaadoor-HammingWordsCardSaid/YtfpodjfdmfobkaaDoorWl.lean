/- The walks of the laws: any word. -/
import Derived.Test.YtfpodjfdmfobkaaDoorWk
namespace Go.Proofs.YtfpodjfdmfobkaaDoor
open Go.RowKit
open Go

def cntW (x k : Nat) : Nat := if Ham.ones x 64 % 2 = 1 ∧ Ham.syn x 64 < k then 1 else 0
theorem chk_flip (x k : Nat) (hk : k < 64) : Ham.chk (x ^^^ 2 ^ k) = 0 ↔ Ham.ones x 64 % 2 = 1 ∧ Ham.syn x 64 = k := by
  rw [Ham.chk_zero, Ham.par_flip x k hk, Ham.syn_flip x k hk]
  constructor
  · rintro ⟨h1, h2⟩
    exact ⟨by omega, Classical.byContradiction fun hn => Ham.xor_ne hn h2⟩
  · rintro ⟨h1, h2⟩
    exact ⟨by omega, by rw [h2, Nat.xor_self]⟩
theorem cntW_step (x k : Nat) (hk : k < 64) : cntW x (k + 1) = cntW x k + (if Ham.chk (x ^^^ 2 ^ k) = 0 then 1 else 0) := by
  have h := chk_flip x k hk
  unfold cntW
  by_cases h1 : Ham.ones x 64 % 2 = 1
  · by_cases h2 : Ham.syn x 64 = k
    · rw [if_pos (h.2 ⟨h1, h2⟩), if_pos ⟨h1, by omega⟩, if_neg (by omega)]
    · rw [if_neg (fun hc => h2 (h.1 hc).2)]
      by_cases h3 : Ham.syn x 64 < k
      · rw [if_pos ⟨h1, by omega⟩, if_pos ⟨h1, h3⟩]
      · rw [if_neg (by omega), if_neg (by omega)]
  · rw [if_neg (fun hc => h1 hc.1), if_neg (fun hc => h1 hc.1), if_neg (fun hc => h1 (h.1 hc).1)]
theorem cntW_le (x k : Nat) : cntW x k ≤ 1 := by unfold cntW; split <;> omega
theorem cntW_odd (x : Nat) (h : Ham.ones x 64 % 2 = 1) : cntW x 64 = 1 := by unfold cntW; rw [if_pos ⟨h, Ham.syn_lt x 64 (by decide)⟩]
theorem cntW_even (x : Nat) (h : Ham.ones x 64 % 2 = 0) : cntW x 64 = 0 := by unfold cntW; rw [if_neg (by omega)]
structure Laid2 (w w3 w4 : World) (dv df de av : Int) (W : World) : Prop where
  below : Below w.heap.size w w3
  above : Below (w3.heap.size + 1) (w3.alloc (.cells #[.int .u64 dv, .int .i64 df, .int .i64 de] 35)) w4
  mem : W = w4.alloc (.cells #[.int .u64 av, .int .i64 0] 27)
theorem Laid2.all {w w3 w4 W : World} {dv df de av : Int} (h : Laid2 w w3 w4 dv df de av W) (x : Ext (w4.heap.size + 1) W) : Below w.heap.size w x.val ∧
    (x.val.cell? ⟨w3.heap.size, 0, none⟩ = some (.int .u64 dv) ∧ x.val.cell? ⟨w3.heap.size, 1, none⟩ = some (.int .i64 df) ∧ x.val.cell? ⟨w3.heap.size, 2, none⟩ = some (.int .i64 de)) ∧
    (x.val.cell? ⟨w4.heap.size, 0, none⟩ = some (.int .u64 av) ∧ x.val.cell? ⟨w4.heap.size, 1, none⟩ = some (.int .i64 0)) := by
  obtain ⟨hb, ha, hm⟩ := h
  have hs := hb.size
  have hs4 := ha.size
  simp at hs4
  subst hm
  have hb4 : Below w.heap.size w w4 := (hb.alloc hs _).trans (ha.mono (by omega))
  refine ⟨(hb4.alloc (by omega) _).trans (x.below.mono (by omega)), ⟨?_, ?_, ?_⟩, ?_, ?_⟩
  · exact (x.cell (by simp; omega)).trans (((Below.refl (w3.heap.size + 1) w4).alloc (by omega) _).cell (by simp) |>.trans ((ha.cell (by simp)).trans (by simp [go_sem])))
  · exact (x.cell (by simp; omega)).trans (((Below.refl (w3.heap.size + 1) w4).alloc (by omega) _).cell (by simp) |>.trans ((ha.cell (by simp)).trans (by simp [go_sem])))
  · exact (x.cell (by simp; omega)).trans (((Below.refl (w3.heap.size + 1) w4).alloc (by omega) _).cell (by simp) |>.trans ((ha.cell (by simp)).trans (by simp [go_sem])))
  · exact (x.cell (by simp)).trans (by simp [go_sem])
  · exact (x.cell (by simp)).trans (by simp [go_sem])

set_option maxRecDepth 100000 in
set_option maxHeartbeats 1000000 in
theorem words_0 (x : Nat) (hx : x < 18446744073709551616) (hk : Ham.chk x = 0) (w : World) (hT : TabAt Lib.deBruijn64tab w) :
    Calls Tryd.prog 8 #[.int .u64 x] w fun e w' => e = .returned (.bool true) ∧ Below w.heap.size w w' := by
  have HT := Lib.hid (fun w' h => hT.below (w' := w') hT.pos h)
  have hV : decV x = .agg #[.int .u64 (Ham.dat x 57 : Nat), .int .i64 0, .int .i64 0] := decV0 hk
  have hA : encV (Ham.dat x 57) = .agg #[.int .u64 (x : Nat), .int .i64 0] := (encV0 (Ham.dat_lt x 57)).trans (by rw [Ham.enc_dat x hx hk]; rfl)
  have hN : cntW x 64 = 0 := cntW_even x ((Ham.chk_zero x).1 hk).1
  have HK := Lib.hid hk
  have HVx := Lib.hid hV
  have HAx := Lib.hid hA
  have HN := Lib.hid hN
  clear hk hV hA hN hT
  go_enter Tryd.func8, Tryd.ntmps8
  go_wp2_with (go_at_call 9; refine (examples_w _ (HT.out _ (Below.refl _ _))).mono ?_; rintro e w1 ⟨rfl, hb1⟩)
  go_loop [4, 5] (fun n p => ∃ k : Nat, k ≤ 64 ∧ p = .int .i64 k ∧ n = .int .i64 (cntW x k)) (fun _ p => 64 - (intOf p).toNat)
  case atStart => exact ⟨0, by omega, rfl, by rw [show cntW x 0 = 0 by unfold cntW; rw [if_neg (by omega)]]; rfl⟩
  case round =>
    obtain ⟨k, hk, rfl, rfl⟩ := hrel
    have hle := cntW_le x k
    by_cases hlt : k < 64
    · have H := Lib.hid (cntW_step x k hlt)
      have hxl := x64 x k hx hlt
      have HTw := Lib.hid (HT.out w1 hb1)
      have HF := Lib.hid (flip_on x hx k w1 hlt)
      by_cases hb : Ham.chk (x ^^^ 2 ^ k) = 0
      · have HB := Lib.hid (show cntW x (k + 1) = cntW x k + 1 by rw [H.out, if_pos hb])
        have HC := Lib.hid (chk_w (x ^^^ 2 ^ k) hxl w1 HTw.out)
        rw [hb] at HC
        clear hb H
        generalize x ^^^ 2 ^ k = y at *
        go_wp2_with (first | (go_at_call 13; refine HF.out.mono ?_; rintro e w' ⟨rfl, rfl⟩) | (go_at_call 17; refine HC.out.mono ?_; rintro e w' ⟨rfl, rfl⟩))
        go_round
        case rel => exact ⟨k + 1, by omega, by go_num, by rw [HB.out]; go_num⟩
        case measure => simp [intOf]; omega
      · have HB := Lib.hid (show cntW x (k + 1) = cntW x k by rw [H.out, if_neg hb]; rfl)
        have HC := Lib.hid (chk_w (x ^^^ 2 ^ k) hxl w1 HTw.out)
        have ht : (((Ham.chk (x ^^^ 2 ^ k) : Nat) : Int) == 0) = false := by rw [beq_eq_false_iff_ne]; omega
        generalize Ham.chk (x ^^^ 2 ^ k) = cc at *
        clear hb H
        generalize x ^^^ 2 ^ k = y at *
        go_wp2_with (first | (go_at_call 13; refine HF.out.mono ?_; rintro e w' ⟨rfl, rfl⟩) | (go_at_call 17; refine HC.out.mono ?_; rintro e w' ⟨rfl, rfl⟩))
        go_round
        case rel => exact ⟨k + 1, by omega, by go_num, by rw [HB.out]⟩
        case measure => simp [intOf]; omega
    · have : k = 64 := by omega
      subst this
      rw [HN.out]
      clear hle
      go_upto_region 12 with ((first | (go_at_call 19; refine (decoded_w x hx _ (HT.out _ hb1)).mono ?_; rintro e w3 ⟨rfl, hb3⟩; rw [HVx.out]; (have hb3w := hb1.trans (hb3.mono hb1.size))) | (go_at_call 10; refine (encoded_w _ _ (HT.out _ (hb3w.alloc hb3w.size _))).mono ?_; rintro e w4 ⟨rfl, hb4⟩; rw [HAx.out]; simp only [World.size_alloc] at hb4)))
      obtain ⟨W, hW⟩ : ∃ W, W = w4.alloc (.cells #[.int .u64 ((x : Nat)), .int .i64 0] 27) := ⟨_, rfl⟩
      rw [← hW]
      have HL := Lib.hid (show Laid2 w w3 w4 ((Ham.dat x 57 : Nat)) 0 0 ((x : Nat)) W from ⟨hb3w, hb4, hW⟩)
      have hsz : w4.heap.size + 1 ≤ W.heap.size := by rw [hW]; simp
      clear hW
      have a0 := fun x => (HL.out.all x).2.1.1
      have a1 := fun x => (HL.out.all x).2.1.2.1
      have a2 := fun x => (HL.out.all x).2.1.2.2
      have c0 := fun x => (HL.out.all x).2.2.1
      have c1 := fun x => (HL.out.all x).2.2.2
      have K1 := Lib.hid (fun z : Ext (w4.heap.size + 1) W => xchk z (HT.out _ (HL.out.all z).1) x hx x 0 rfl (by rw [HK.out]; rfl))
      have K5 := K1
      refine wp_region_held' (Ext.here (w4.heap.size + 1) W) rfl ?_
      repeat (go_big_quiet_step (with_reducible exact K1.out _))
      refine wpQuiet_nil ?_
      rintro _ ⟨x2, rfl⟩
      go_upto_region 14 with (fail)
      first | refine wp_region_held' x2 rfl ?_ | refine wp_region_held x2 rfl (by kernel_rfl) (by kernel_rfl) ?_
      repeat (go_big_quiet_step (with_reducible exact K5.out _))
      refine wpQuiet_nil ?_
      rintro _ ⟨x4, rfl⟩
      go_wp2
      go_ret
      exact ⟨rfl, (HL.out.all x4).1⟩

set_option maxRecDepth 100000 in
set_option maxHeartbeats 1000000 in
theorem words_1 (x : Nat) (hx : x < 18446744073709551616) (hk : Ham.chk x = 1) (w : World) (hT : TabAt Lib.deBruijn64tab w) :
    Calls Tryd.prog 8 #[.int .u64 x] w fun e w' => e = .returned (.bool true) ∧ Below w.heap.size w w' := by
  have HT := Lib.hid (fun w' h => hT.below (w' := w') hT.pos h)
  have hsl := Ham.syn_lt x 64 (by decide)
  have hyl := x64 x (Ham.syn x 64) hx hsl
  have hy0 : Ham.chk (x ^^^ 2 ^ Ham.syn x 64) = 0 := (chk_flip x _ hsl).2 ⟨(Ham.chk_one x).1 hk, rfl⟩
  have hV : decV x = .agg #[.int .u64 (Ham.dat (x ^^^ 2 ^ Ham.syn x 64) 57 : Nat), .int .i64 1, .int .i64 0] := decV1 hk
  have hA : encV (Ham.dat (x ^^^ 2 ^ Ham.syn x 64) 57) = .agg #[.int .u64 (x ^^^ 2 ^ Ham.syn x 64 : Nat), .int .i64 0] := (encV0 (Ham.dat_lt _ 57)).trans (by rw [Ham.enc_dat _ hyl hy0]; rfl)
  have hN : cntW x 64 = 1 := cntW_odd x ((Ham.chk_one x).1 hk)
  have HO := Lib.hid (show Ham.ones (x ^^^ 2 ^ Ham.syn x 64 ^^^ x) 64 = 1 by rw [Nat.xor_comm, Ham.xcl, Ham.ones_two_pow, if_pos hsl])
  clear hy0 hsl
  generalize x ^^^ 2 ^ Ham.syn x 64 = u at *
  have HK := Lib.hid hk
  have HVx := Lib.hid hV
  have HAx := Lib.hid hA
  have HN := Lib.hid hN
  clear hk hV hA hN hT
  go_enter Tryd.func8, Tryd.ntmps8
  go_wp2_with (go_at_call 9; refine (examples_w _ (HT.out _ (Below.refl _ _))).mono ?_; rintro e w1 ⟨rfl, hb1⟩)
  go_loop [4, 5] (fun n p => ∃ k : Nat, k ≤ 64 ∧ p = .int .i64 k ∧ n = .int .i64 (cntW x k)) (fun _ p => 64 - (intOf p).toNat)
  case atStart => exact ⟨0, by omega, rfl, by rw [show cntW x 0 = 0 by unfold cntW; rw [if_neg (by omega)]]; rfl⟩
  case round =>
    obtain ⟨k, hk, rfl, rfl⟩ := hrel
    have hle := cntW_le x k
    by_cases hlt : k < 64
    · have H := Lib.hid (cntW_step x k hlt)
      have hxl := x64 x k hx hlt
      have HTw := Lib.hid (HT.out w1 hb1)
      have HF := Lib.hid (flip_on x hx k w1 hlt)
      by_cases hb : Ham.chk (x ^^^ 2 ^ k) = 0
      · have HB := Lib.hid (show cntW x (k + 1) = cntW x k + 1 by rw [H.out, if_pos hb])
        have HC := Lib.hid (chk_w (x ^^^ 2 ^ k) hxl w1 HTw.out)
        rw [hb] at HC
        clear hb H
        generalize x ^^^ 2 ^ k = y at *
        go_wp2_with (first | (go_at_call 13; refine HF.out.mono ?_; rintro e w' ⟨rfl, rfl⟩) | (go_at_call 17; refine HC.out.mono ?_; rintro e w' ⟨rfl, rfl⟩))
        go_round
        case rel => exact ⟨k + 1, by omega, by go_num, by rw [HB.out]; go_num⟩
        case measure => simp [intOf]; omega
      · have HB := Lib.hid (show cntW x (k + 1) = cntW x k by rw [H.out, if_neg hb]; rfl)
        have HC := Lib.hid (chk_w (x ^^^ 2 ^ k) hxl w1 HTw.out)
        have ht : (((Ham.chk (x ^^^ 2 ^ k) : Nat) : Int) == 0) = false := by rw [beq_eq_false_iff_ne]; omega
        generalize Ham.chk (x ^^^ 2 ^ k) = cc at *
        clear hb H
        generalize x ^^^ 2 ^ k = y at *
        go_wp2_with (first | (go_at_call 13; refine HF.out.mono ?_; rintro e w' ⟨rfl, rfl⟩) | (go_at_call 17; refine HC.out.mono ?_; rintro e w' ⟨rfl, rfl⟩))
        go_round
        case rel => exact ⟨k + 1, by omega, by go_num, by rw [HB.out]⟩
        case measure => simp [intOf]; omega
    · have : k = 64 := by omega
      subst this
      rw [HN.out]
      clear hle
      go_upto_region 12 with ((first | (go_at_call 19; refine (decoded_w x hx _ (HT.out _ hb1)).mono ?_; rintro e w3 ⟨rfl, hb3⟩; rw [HVx.out]; (have hb3w := hb1.trans (hb3.mono hb1.size))) | (go_at_call 10; refine (encoded_w _ _ (HT.out _ (hb3w.alloc hb3w.size _))).mono ?_; rintro e w4 ⟨rfl, hb4⟩; rw [HAx.out]; simp only [World.size_alloc] at hb4)))
      obtain ⟨W, hW⟩ : ∃ W, W = w4.alloc (.cells #[.int .u64 (u : Nat), .int .i64 0] 27) := ⟨_, rfl⟩
      rw [← hW]
      have HL := Lib.hid (show Laid2 w w3 w4 ((Ham.dat u 57 : Nat)) 1 0 ((u : Nat)) W from ⟨hb3w, hb4, hW⟩)
      have hsz : w4.heap.size + 1 ≤ W.heap.size := by rw [hW]; simp
      clear hW
      have a0 := fun x => (HL.out.all x).2.1.1
      have a1 := fun x => (HL.out.all x).2.1.2.1
      have a2 := fun x => (HL.out.all x).2.1.2.2
      have c0 := fun x => (HL.out.all x).2.2.1
      have c1 := fun x => (HL.out.all x).2.2.2
      have K1 := Lib.hid (fun z : Ext (w4.heap.size + 1) W => xchk z (HT.out _ (HL.out.all z).1) x hx x 1 rfl (by rw [HK.out]; rfl))
      have K5 := Lib.hid (fun z : Ext (w4.heap.size + 1) W => xdist z u x hyl hx u x 1 rfl rfl (by rw [HO.out]; rfl))
      refine wp_region_held' (Ext.here (w4.heap.size + 1) W) rfl ?_
      repeat (go_big_quiet_step (with_reducible exact K1.out _))
      refine wpQuiet_nil ?_
      rintro _ ⟨x2, rfl⟩
      go_upto_region 16 with (fail)
      first | refine wp_region_held' x2 rfl ?_ | refine wp_region_held x2 rfl (by kernel_rfl) (by kernel_rfl) ?_
      repeat (go_big_quiet_step (with_reducible exact K5.out _))
      refine wpQuiet_nil ?_
      rintro _ ⟨x4, rfl⟩
      go_wp2
      go_ret
      exact ⟨rfl, (HL.out.all x4).1⟩

set_option maxRecDepth 100000 in
set_option maxHeartbeats 1000000 in
theorem words_2 (x : Nat) (hx : x < 18446744073709551616) (hk : Ham.chk x = 2) (w : World) (hT : TabAt Lib.deBruijn64tab w) :
    Calls Tryd.prog 8 #[.int .u64 x] w fun e w' => e = .returned (.bool true) ∧ Below w.heap.size w w' := by
  have HT := Lib.hid (fun w' h => hT.below (w' := w') hT.pos h)
  have hV : decV x = .agg #[.int .u64 0, .int .i64 0, .int .i64 6] := decV2 hk
  have hA : encV 0 = .agg #[.int .u64 0, .int .i64 0] := by rw [encV0 (by decide), show Ham.enc 0 = 0 by decide +kernel]; rfl
  have hN : cntW x 64 = 0 := cntW_even x ((Ham.chk_two x).1 hk).1
  have HK := Lib.hid hk
  have HVx := Lib.hid hV
  have HAx := Lib.hid hA
  have HN := Lib.hid hN
  clear hk hV hA hN hT
  go_enter Tryd.func8, Tryd.ntmps8
  go_wp2_with (go_at_call 9; refine (examples_w _ (HT.out _ (Below.refl _ _))).mono ?_; rintro e w1 ⟨rfl, hb1⟩)
  go_loop [4, 5] (fun n p => ∃ k : Nat, k ≤ 64 ∧ p = .int .i64 k ∧ n = .int .i64 (cntW x k)) (fun _ p => 64 - (intOf p).toNat)
  case atStart => exact ⟨0, by omega, rfl, by rw [show cntW x 0 = 0 by unfold cntW; rw [if_neg (by omega)]]; rfl⟩
  case round =>
    obtain ⟨k, hk, rfl, rfl⟩ := hrel
    have hle := cntW_le x k
    by_cases hlt : k < 64
    · have H := Lib.hid (cntW_step x k hlt)
      have hxl := x64 x k hx hlt
      have HTw := Lib.hid (HT.out w1 hb1)
      have HF := Lib.hid (flip_on x hx k w1 hlt)
      by_cases hb : Ham.chk (x ^^^ 2 ^ k) = 0
      · have HB := Lib.hid (show cntW x (k + 1) = cntW x k + 1 by rw [H.out, if_pos hb])
        have HC := Lib.hid (chk_w (x ^^^ 2 ^ k) hxl w1 HTw.out)
        rw [hb] at HC
        clear hb H
        generalize x ^^^ 2 ^ k = y at *
        go_wp2_with (first | (go_at_call 13; refine HF.out.mono ?_; rintro e w' ⟨rfl, rfl⟩) | (go_at_call 17; refine HC.out.mono ?_; rintro e w' ⟨rfl, rfl⟩))
        go_round
        case rel => exact ⟨k + 1, by omega, by go_num, by rw [HB.out]; go_num⟩
        case measure => simp [intOf]; omega
      · have HB := Lib.hid (show cntW x (k + 1) = cntW x k by rw [H.out, if_neg hb]; rfl)
        have HC := Lib.hid (chk_w (x ^^^ 2 ^ k) hxl w1 HTw.out)
        have ht : (((Ham.chk (x ^^^ 2 ^ k) : Nat) : Int) == 0) = false := by rw [beq_eq_false_iff_ne]; omega
        generalize Ham.chk (x ^^^ 2 ^ k) = cc at *
        clear hb H
        generalize x ^^^ 2 ^ k = y at *
        go_wp2_with (first | (go_at_call 13; refine HF.out.mono ?_; rintro e w' ⟨rfl, rfl⟩) | (go_at_call 17; refine HC.out.mono ?_; rintro e w' ⟨rfl, rfl⟩))
        go_round
        case rel => exact ⟨k + 1, by omega, by go_num, by rw [HB.out]⟩
        case measure => simp [intOf]; omega
    · have : k = 64 := by omega
      subst this
      rw [HN.out]
      clear hle
      go_upto_region 12 with ((first | (go_at_call 19; refine (decoded_w x hx _ (HT.out _ hb1)).mono ?_; rintro e w3 ⟨rfl, hb3⟩; rw [HVx.out]; (have hb3w := hb1.trans (hb3.mono hb1.size))) | (go_at_call 10; refine (encoded_w 0 _ (HT.out _ (hb3w.alloc hb3w.size _))).mono ?_; rintro e w4 ⟨rfl, hb4⟩; rw [HAx.out]; simp only [World.size_alloc] at hb4)))
      obtain ⟨W, hW⟩ : ∃ W, W = w4.alloc (.cells #[.int .u64 (0), .int .i64 0] 27) := ⟨_, rfl⟩
      rw [← hW]
      have HL := Lib.hid (show Laid2 w w3 w4 (0) 0 6 (0) W from ⟨hb3w, hb4, hW⟩)
      have hsz : w4.heap.size + 1 ≤ W.heap.size := by rw [hW]; simp
      clear hW
      have a0 := fun x => (HL.out.all x).2.1.1
      have a1 := fun x => (HL.out.all x).2.1.2.1
      have a2 := fun x => (HL.out.all x).2.1.2.2
      have c0 := fun x => (HL.out.all x).2.2.1
      have c1 := fun x => (HL.out.all x).2.2.2
      have K1 := Lib.hid (fun z : Ext (w4.heap.size + 1) W => xchk z (HT.out _ (HL.out.all z).1) x hx x 2 rfl (by rw [HK.out]; rfl))
      have K5 := K1
      refine wp_region_held' (Ext.here (w4.heap.size + 1) W) rfl ?_
      repeat (go_big_quiet_step (with_reducible exact K1.out _))
      refine wpQuiet_nil ?_
      rintro _ ⟨x2, rfl⟩
      go_upto_region 18 with (fail)
      first | refine wp_region_held' x2 rfl ?_ | refine wp_region_held x2 rfl (by kernel_rfl) (by kernel_rfl) ?_
      repeat (go_big_quiet_step (with_reducible exact K5.out _))
      refine wpQuiet_nil ?_
      rintro _ ⟨x4, rfl⟩
      go_wp2
      go_ret
      exact ⟨rfl, (HL.out.all x4).1⟩
theorem words_w (x : Nat) (hx : x < 18446744073709551616) (w : World) (hT : TabAt Lib.deBruijn64tab w) :
    Calls Tryd.prog 8 #[.int .u64 x] w fun e w' => e = .returned (.bool true) ∧ Below w.heap.size w w' := by
  have hc := Ham.chk_le x
  obtain h | h | h : Ham.chk x = 0 ∨ Ham.chk x = 1 ∨ Ham.chk x = 2 := by omega
  · exact words_0 x hx h w hT
  · exact words_1 x hx h w hT
  · exact words_2 x hx h w hT
end Go.Proofs.YtfpodjfdmfobkaaDoor
