/- The walk of the law: all functions return what the reference returns. -/
import Derived.Test.YtfpodjfdmfobkaaDoorWk
namespace Go.Proofs.YtfpodjfdmfobkaaDoor
open Go.RowKit
open Go

def flipV (x : Nat) (i : Int) : Nat := if 0 ≤ i ∧ i ≤ 63 then x ^^^ 2 ^ i.toNat else x
theorem flipV_lt (x : Nat) (i : Int) (hx : x < 18446744073709551616) : flipV x i < 18446744073709551616 := by
  unfold flipV; split
  · exact x64 x _ hx (by omega)
  · exact hx
theorem flip_any (x : Nat) (hx : x < 18446744073709551616) (i : Int) (w : World) :
    Calls Tryd.prog 13 #[.int .u64 x, .int .i64 i] w fun e w' => e = .returned (.int .u64 (flipV x i : Nat)) ∧ w = w' := by
  by_cases h : 0 ≤ i ∧ i ≤ 63
  · obtain ⟨n, rfl⟩ := Int.eq_ofNat_of_zero_le h.1
    rw [show flipV x n = x ^^^ 2 ^ n by unfold flipV; rw [if_pos h]; rfl]
    exact flip_on x hx n w (by omega)
  · rw [show flipV x i = x by unfold flipV; rw [if_neg h]]
    exact flip_off x i w (by omega)
theorem rflip_any (x : Nat) (hx : x < 18446744073709551616) (i : Int) (w : World) :
    Calls Tryd.prog 14 #[.int .u64 x, .int .i64 i] w fun e w' => e = .returned (.int .u64 (flipV x i : Nat)) ∧ w = w' := by
  by_cases h : 0 ≤ i ∧ i ≤ 63
  · obtain ⟨n, rfl⟩ := Int.eq_ofNat_of_zero_le h.1
    rw [show flipV x n = x ^^^ 2 ^ n by unfold flipV; rw [if_pos h]; rfl]
    exact rflip_on x hx n w (by omega)
  · rw [show flipV x i = x by unfold flipV; rw [if_neg h]]
    exact rflip_off x i w (by omega)
theorem rdist_w (x y : Nat) (hx : x < 18446744073709551616) (hy : y < 18446744073709551616) (w : World) :
    Calls Tryd.prog 16 #[.int .u64 x, .int .u64 y] w fun e w' => e = .returned (.int .i64 (Ham.ones (x ^^^ y) 64)) ∧ w = w' := by
  have hxy : x ^^^ y < 18446744073709551616 := Ham.xor_lt (n := 64) hx hy
  have he := bits_xor_u64_nat x y hx hy
  go_enter Tryd.func16, Tryd.ntmps16
  go_wp2_with (go_at_call 25; refine (rones_w _ hxy _).mono ?_; rintro e w' ⟨rfl, rfl⟩)
  go_ret
  exact ⟨rfl, rfl⟩
theorem encAny (d : Nat) : ∃ u v : Int, encV d = .agg #[.int .u64 u, .int .i64 v] := by
  by_cases h : d < 144115188075855872
  · exact ⟨_, _, encV0 h⟩
  · exact ⟨_, _, encV1 h⟩
theorem decAny (x : Nat) : ∃ u v s : Int, decV x = .agg #[.int .u64 u, .int .i64 v, .int .i64 s] := by
  have hc := Ham.chk_le x
  obtain h | h | h : Ham.chk x = 0 ∨ Ham.chk x = 1 ∨ Ham.chk x = 2 := by omega
  · exact ⟨_, _, _, decV0 h⟩
  · exact ⟨_, _, _, decV1 h⟩
  · exact ⟨_, _, _, decV2 h⟩
theorem bits_u64 (op : BinOp) (a b : Int) : ∃ n : Nat, n < 18446744073709551616 ∧ bits op .u64 a b = (n : Int) := by
  refine ⟨(bits op .u64 a b).toNat, ?_, ?_⟩
  all_goals
    unfold bits
    dsimp only
    rw [IntKind.wrap_u64]
    omega
/-- A word of the list, told by both sides. -/
structure Told (w : World) (y : Nat) : Prop where
  lt : y < 18446744073709551616
theorem below_x {w W : World} {B : Nat} (hB : B ≤ W.heap.size) (hw : w.heap.size ≤ B) (hb : Below w.heap.size w W) (x : Ext B W) : Below w.heap.size w x.val := hb.trans (x.below.mono hw)

set_option maxRecDepth 100000 in
set_option maxHeartbeats 2000000 in
theorem matches_w (d : Nat) (hd : d < 18446744073709551616) (p q : Nat) (hp : p < 18446744073709551616) (hq : q < 18446744073709551616) (i : Int) (w : World) (hT : TabAt Lib.deBruijn64tab w) :
    Calls Tryd.prog 3 #[.int .u64 d, .agg #[.int .u64 p, .int .u64 q], .int .i64 i] w fun e w' => e = .returned (.bool true) ∧ Below w.heap.size w w' := by
  have HT := Lib.hid (fun w' h => hT.below (w' := w') hT.pos h)
  obtain ⟨eu, ee, hE⟩ := encAny d
  have hcl := cut_lt d
  have HC := Lib.hid (fun w => cut_w d hd w)
  generalize hc : d % 2 ^ 57 = c at *
  have hel := Ham.enc_lt c
  have hul := flipV_lt (Ham.enc c) i hel
  have HE := Lib.hid hE
  have HA := Lib.hid (encA c hcl)
  have HU := Lib.hid (show flipV (Ham.enc c) i = flipV (Ham.enc c) i from rfl)
  have hc64 : c < 18446744073709551616 := by omega
  have HF := Lib.hid (fun W => rflip_any (Ham.enc c) hel i W)
  generalize flipV (Ham.enc c) i = u at *
  generalize Ham.enc c = v at *
  clear hT hc hE HU
  go_enter Tryd.func3, Tryd.ntmps3
  go_upto_region 4 with (go_at_call 9; refine (examples_w _ (HT.out _ ((Below.refl _ _).alloc (Nat.le_refl _) _))).mono ?_; rintro e w1 ⟨rfl, hb1⟩)
  simp only [World.size_alloc] at hb1
  have hB1 : Below w.heap.size w w1 := ((Below.refl _ w).alloc (Nat.le_refl _) _).trans (hb1.mono (by omega))
  have hs1 := hb1.size
  simp only [World.size_alloc] at hs1
  have q0 : w1.cell? ⟨w.heap.size, 0, none⟩ = some (.int .u64 p) := (hb1.cell (by simp)).trans (by simp [go_sem])
  have q1 : w1.cell? ⟨w.heap.size, 1, none⟩ = some (.int .u64 q) := (hb1.cell (by simp)).trans (by simp [go_sem])
  have QX := Lib.hid (fun x : Ext (w.heap.size + 1) w1 => below_x hs1 (Nat.le_succ _) hB1 x)
  have c0 : ∀ x : Ext (w.heap.size + 1) w1, x.val.cell? ⟨w.heap.size, 0, none⟩ = some (.int .u64 p) := fun x => (x.cell (by simp)).trans q0
  have c1 : ∀ x : Ext (w.heap.size + 1) w1, x.val.cell? ⟨w.heap.size, 1, none⟩ = some (.int .u64 q) := fun x => (x.cell (by simp)).trans q1
  have A1 := Lib.hid (fun x : Ext (w.heap.size + 1) w1 => xenc x hs1 (HT.out _ (QX.out x)) d d eu ee rfl HE.out)
  have A2 := Lib.hid (fun x : Ext (w.heap.size + 1) w1 => x.call hs1 (HE.out ▸ renc_w d hd x.val))
  have A3 := Lib.hid (fun x : Ext (w.heap.size + 1) w1 => x.same (HC.out x.val))
  have A4 := Lib.hid (fun x : Ext (w.heap.size + 1) w1 => xenc x hs1 (HT.out _ (QX.out x)) c c v 0 rfl HA.out)
  have A5 := Lib.hid (fun x : Ext (w.heap.size + 1) w1 => x.call hs1 (HA.out ▸ renc_w c hc64 x.val))
  have A6 := Lib.hid (fun x : Ext (w.heap.size + 1) w1 => x.same (flip_any p hp i x.val))
  have A7 := Lib.hid (fun x : Ext (w.heap.size + 1) w1 => x.same (rflip_any p hp i x.val))
  have A8 := Lib.hid (fun x : Ext (w.heap.size + 1) w1 => x.same (dist_w p q hp hq x.val))
  have A9 := Lib.hid (fun x : Ext (w.heap.size + 1) w1 => x.same (rdist_w p q hp hq x.val))
  clear hb1 q0 q1
  refine wp_region_held (Ext.here (w.heap.size + 1) w1) rfl (by kernel_rfl) (by kernel_rfl) ?_
  repeat (go_big_quiet_step ((first | with_reducible exact A1.out _ | with_reducible exact A2.out _ | with_reducible exact A3.out _ | with_reducible exact A4.out _ | with_reducible exact A5.out _ | with_reducible exact A6.out _ | with_reducible exact A7.out _ | with_reducible exact A8.out _ | with_reducible exact A9.out _)))
  refine wpQuiet_nil ?_
  rintro _ ⟨x2, rfl⟩
  go_upto_region 6 with (fail)
  have hfld : ∀ (a b : Int) (W : World), (Instr.field 27 (.agg #[.int .u64 a, .int .i64 b]) 0).run Tryd.prog W = .ok (.int .u64 a) W := fun _ _ _ => by kernel_rfl
  have F1 := Lib.hid (fun x : Ext (w.heap.size + 1) w1 => x.same (HF.out x.val))
  refine wp_region_held' x2 rfl ?_
  repeat (go_big_quiet_step ((first | with_reducible exact A3.out _ | with_reducible exact A5.out _ | with_reducible exact F1.out _)))
  refine wpQuiet_nil ?_
  rintro _ ⟨x3, rfl⟩
  go_upto_region 8 with (fail)
  obtain ⟨y2, hy2, hE2⟩ := bits_u64 .xor (u : Int) (bits .andNot .u64 (q : Int) (IntKind.u64.wrap ((q : Int) - 1)))
  rw [hE2]
  clear hE2
  obtain ⟨W, hW⟩ : ∃ W, W = x3.val.alloc (.cells #[.int .u64 (p : Nat), .int .u64 (u : Nat), .int .u64 (y2 : Nat)] 22) := ⟨_, rfl⟩
  rw [← hW]
  have hBW : Below w.heap.size w x3.val := QX.out x3
  have hsW : x3.val.heap.size + 1 ≤ W.heap.size := by rw [hW]; simp
  have hBW2 : Below w.heap.size w W := by rw [hW]; exact hBW.alloc hBW.size _
  have HY := Lib.hid (show ∀ k, k < 3 → ∃ y : Nat, y < 18446744073709551616 ∧ ∀ x : Ext (x3.val.heap.size + 1) W, x.val.cell? ⟨x3.val.heap.size, k, none⟩ = some (.int .u64 y) by
    intro k hk
    obtain rfl | rfl | rfl : k = 0 ∨ k = 1 ∨ k = 2 := by omega
    · exact ⟨p, hp, fun x => (x.cell (by simp)).trans (by rw [hW]; simp [go_sem])⟩
    · exact ⟨u, hul, fun x => (x.cell (by simp)).trans (by rw [hW]; simp [go_sem])⟩
    · exact ⟨y2, hy2, fun x => (x.cell (by simp)).trans (by rw [hW]; simp [go_sem])⟩)
  have QY := Lib.hid (fun x : Ext (x3.val.heap.size + 1) W => below_x hsW (Nat.le_trans hBW.size (Nat.le_succ _)) hBW2 x)
  have hb0 : x3.val.heap.size < x3.val.heap.size + 1 := Nat.lt_succ_self _
  generalize x3.val.heap.size = bl at *
  clear hW hBW hBW2 hy2 c0 c1
  go_wp2_with fail
  go_loopw [10] (fun n wr => ∃ k : Nat, k ≤ 3 ∧ n = .int .i64 k ∧ ∃ x : Ext (bl + 1) W, wr = x.val) (fun n _ => 3 - (intOf n).toNat)
  case atStart => exact ⟨0, by omega, rfl, Ext.here _ _, rfl⟩
  case round =>
    obtain ⟨k, hk, rfl, x4, rfl⟩ := hrel
    by_cases hlt : k < 3
    · obtain ⟨y, hyl, hcell⟩ := HY.out k hlt
      obtain ⟨ea, eb, ec, hD⟩ := decAny y
      have HD := Lib.hid hD
      clear hD
      have K1 := Lib.hid (fun x : Ext (bl + 1) W => x.same (chk_w y hyl x.val (HT.out _ (QY.out x))))
      have K2 := Lib.hid (fun x : Ext (bl + 1) W => x.same (rchk_w y hyl x.val))
      have K3 := Lib.hid (fun x : Ext (bl + 1) W => xdec x hsW (HT.out _ (QY.out x)) y hyl y ea eb ec rfl HD.out)
      have K4 := Lib.hid (fun x : Ext (bl + 1) W => x.call hsW (HD.out ▸ rdec_w y hyl x.val))
      go_upto_region 11 with (fail)
      refine wp_region_held x4 rfl (by kernel_rfl) (by kernel_rfl) ?_
      repeat (go_big_quiet_step ((first | with_reducible exact K1.out _ | with_reducible exact K2.out _ | with_reducible exact K3.out _ | with_reducible exact K4.out _)))
      refine wpQuiet_nil ?_
      rintro _ ⟨x5, rfl⟩
      go_wp2
      go_roundw
      case rel => exact ⟨k + 1, by omega, by go_num, x5, rfl⟩
      case measure => simp [intOf]; omega
    · go_wp2
      go_ret
      exact ⟨rfl, QY.out x4⟩
end Go.Proofs.YtfpodjfdmfobkaaDoor
