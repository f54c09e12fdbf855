/- The walks of the laws: two bits inverted. -/
import Derived.Test.YtfpodjfdmfobkaaDoorWi
namespace Go.Proofs.YtfpodjfdmfobkaaDoor
open Go.RowKit
open Go

set_option maxRecDepth 100000 in
set_option maxHeartbeats 1000000 in
theorem detects_ne (d : Nat) (hd : d < 18446744073709551616) (i : Nat) (hi : i < 256) (k : Nat) (hk : k < 256) (hne : i % 64 ≠ k % 64) (w : World) (hT : TabAt Lib.deBruijn64tab w) :
    Calls Tryd.prog 6 #[.int .u64 d, .int .u8 i, .int .u8 k] w fun e w' => e = .returned (.bool true) ∧ Below w.heap.size w w' := by
  have HT := Lib.hid (fun w' h => hT.below (w' := w') hT.pos h)
  have hcl := cut_lt d
  have HC := Lib.hid (fun w => cut_w d hd w)
  generalize hc : d % 2 ^ 57 = c at *
  have HE := Lib.hid (encA c hcl)
  have hel := Ham.enc_lt c
  have hj := mod64 i
  have hm := mod64 k
  have HJ := Lib.hid (show (i : Int) % 64 = ((i % 64 : Nat) : Int) by omega)
  have HM := Lib.hid (show (k : Int) % 64 = ((k % 64 : Nat) : Int) by omega)
  have hxl := x64 (Ham.enc c) (i % 64) hel hj
  have hyl := x64 (Ham.enc c ^^^ 2 ^ (i % 64)) (k % 64) hxl hm
  have hp := Ham.par_flip (Ham.enc c) (i % 64) hj
  have hp2 := Ham.par_flip (Ham.enc c ^^^ 2 ^ (i % 64)) (k % 64) hm
  have hs := Ham.syn_flip (Ham.enc c) (i % 64) hj
  have hs2 := Ham.syn_flip (Ham.enc c ^^^ 2 ^ (i % 64)) (k % 64) hm
  rw [hs, Ham.syn_enc c hcl, Nat.zero_xor] at hs2
  have hk1 : Ham.chk (Ham.enc c ^^^ 2 ^ (i % 64) ^^^ 2 ^ (k % 64)) = 2 := (Ham.chk_two _).2 ⟨by have := Ham.par_enc c hcl; omega, by rw [hs2]; exact Ham.xor_ne hne⟩
  have HK := Lib.hid hk1
  have HV := Lib.hid (decV2 hk1)
  have HO := Lib.hid (show Ham.ones (Ham.enc c ^^^ 2 ^ (i % 64) ^^^ 2 ^ (k % 64) ^^^ Ham.enc c) 64 = 2 by rw [Nat.xor_comm, Nat.xor_assoc, Ham.xcl]; exact Ham.ones_two _ _ hj hm hne)
  have ht : (((i % 64 : Nat) : Int) == ((k % 64 : Nat) : Int)) = false := by rw [beq_eq_false_iff_ne]; omega
  generalize i % 64 = j at *
  generalize k % 64 = m at *
  generalize hv : Ham.enc c = v at *
  generalize hu : v ^^^ 2 ^ j = u at *
  generalize hy : u ^^^ 2 ^ m = y at *
  have HU := Lib.hid hu
  have HY := Lib.hid hy
  clear hT hc hv hu hp hs hk1 hy hp2 hs2 hne
  go_enter Tryd.func6, Tryd.ntmps6
  go_upto_region 6 with ((first | (go_at_call 9; refine (examples_w _ (HT.out _ (Below.refl _ _))).mono ?_; rintro e w1 ⟨rfl, hb1⟩) | (go_at_call 12; refine (HC.out _).mono ?_; rintro e w' ⟨rfl, rfl⟩) | (go_at_call 10; refine (encoded_w _ _ (HT.out _ hb1)).mono ?_; rintro e w2 ⟨rfl, hb2⟩; rw [HE.out])))
  rw [HJ.out, HM.out]
  obtain ⟨W, hW⟩ : ∃ W, W = w2.alloc (.cells #[.int .u64 (v : Nat), .int .i64 0] 27) := ⟨_, rfl⟩
  rw [← hW]
  have HL := Lib.hid (show Laid w w2 W v from ⟨hW, hb1.trans (hb2.mono hb1.size)⟩)
  clear hW
  have c0 := fun x => (HL.out.all x).2.1
  have c1 := fun x => (HL.out.all x).2.2
  have F1 := Lib.hid (fun x : Ext (w2.heap.size + 1) W => xflip x v j hel hj v j u rfl rfl (by rw [HU.out]))
  have F2 := Lib.hid (fun x : Ext (w2.heap.size + 1) W => xflip x u m hxl hm u m y rfl rfl (by rw [HY.out]))
  have K1 := Lib.hid (fun x : Ext (w2.heap.size + 1) W => xchk x (HT.out _ (HL.out.all x).1) y hyl y 2 rfl (by rw [HK.out]; rfl))
  have K2 := Lib.hid (fun x : Ext (w2.heap.size + 1) W => xdec x HL.out.hB (HT.out _ (HL.out.all x).1) y hyl y 0 0 6 rfl HV.out)
  have K4 := Lib.hid (fun x : Ext (w2.heap.size + 1) W => xdist x y v hyl hel y v 2 rfl rfl (by rw [HO.out]; rfl))
  refine wp_region_held' (Ext.here (w2.heap.size + 1) W) rfl ?_
  repeat (go_big_quiet_step ((first | with_reducible exact F1.out _ | with_reducible exact F2.out _)))
  refine wpQuiet_nil ?_
  rintro _ ⟨x2, rfl⟩
  go_upto_region 9 with (fail)
  refine wp_region_held' x2 rfl ?_
  repeat (go_big_quiet_step ((first | with_reducible exact K1.out _ | with_reducible exact K2.out _ | with_reducible exact K4.out _)))
  refine wpQuiet_nil ?_
  rintro _ ⟨x3, rfl⟩
  go_wp2
  go_ret
  exact ⟨rfl, (HL.out.all x3).1⟩

set_option maxRecDepth 100000 in
set_option maxHeartbeats 1000000 in
theorem detects_eq (d : Nat) (hd : d < 18446744073709551616) (i : Nat) (hi : i < 256) (k : Nat) (hk : k < 256) (he : i % 64 = k % 64) (w : World) (hT : TabAt Lib.deBruijn64tab w) :
    Calls Tryd.prog 6 #[.int .u64 d, .int .u8 i, .int .u8 k] w fun e w' => e = .returned (.bool true) ∧ Below w.heap.size w w' := by
  have HT := Lib.hid (fun w' h => hT.below (w' := w') hT.pos h)
  have hcl := cut_lt d
  have HC := Lib.hid (fun w => cut_w d hd w)
  generalize hc : d % 2 ^ 57 = c at *
  have HE := Lib.hid (encA c hcl)
  have hel := Ham.enc_lt c
  have hj := mod64 i
  have HJ := Lib.hid (show (i : Int) % 64 = ((i % 64 : Nat) : Int) by omega)
  have HM := Lib.hid (show (k : Int) % 64 = ((i % 64 : Nat) : Int) by omega)
  have hxl := x64 (Ham.enc c) (i % 64) hel hj
  have HF := Lib.hid (Ham.flip_flip (Ham.enc c) (i % 64))
  generalize i % 64 = j at *
  generalize hv : Ham.enc c = v at *
  generalize hu : v ^^^ 2 ^ j = u at *
  have HU := Lib.hid hu
  clear hT hc hv hu he
  go_enter Tryd.func6, Tryd.ntmps6
  go_upto_region 6 with ((first | (go_at_call 9; refine (examples_w _ (HT.out _ (Below.refl _ _))).mono ?_; rintro e w1 ⟨rfl, hb1⟩) | (go_at_call 12; refine (HC.out _).mono ?_; rintro e w' ⟨rfl, rfl⟩) | (go_at_call 10; refine (encoded_w _ _ (HT.out _ hb1)).mono ?_; rintro e w2 ⟨rfl, hb2⟩; rw [HE.out])))
  rw [HJ.out, HM.out]
  obtain ⟨W, hW⟩ : ∃ W, W = w2.alloc (.cells #[.int .u64 (v : Nat), .int .i64 0] 27) := ⟨_, rfl⟩
  rw [← hW]
  have HL := Lib.hid (show Laid w w2 W v from ⟨hW, hb1.trans (hb2.mono hb1.size)⟩)
  clear hW
  have c0 := fun x => (HL.out.all x).2.1
  have c1 := fun x => (HL.out.all x).2.2
  have F1 := Lib.hid (fun x : Ext (w2.heap.size + 1) W => xflip x v j hel hj v j u rfl rfl (by rw [HU.out]))
  have F2 := Lib.hid (fun x : Ext (w2.heap.size + 1) W => xflip x u j hxl hj u j v rfl rfl (by rw [HF.out]))
  refine wp_region_held' (Ext.here (w2.heap.size + 1) W) rfl ?_
  repeat (go_big_quiet_step ((first | with_reducible exact F1.out _ | with_reducible exact F2.out _)))
  refine wpQuiet_nil ?_
  rintro _ ⟨x2, rfl⟩
  go_upto_region 8 with (fail)
  refine wp_region_held' x2 rfl ?_
  repeat (go_big_quiet_step (fail))
  refine wpQuiet_nil ?_
  rintro _ ⟨x3, rfl⟩
  go_wp2
  go_ret
  exact ⟨rfl, (HL.out.all x3).1⟩
theorem detects_w (d : Nat) (hd : d < 18446744073709551616) (i : Nat) (hi : i < 256) (k : Nat) (hk : k < 256) (w : World) (hT : TabAt Lib.deBruijn64tab w) :
    Calls Tryd.prog 6 #[.int .u64 d, .int .u8 i, .int .u8 k] w fun e w' => e = .returned (.bool true) ∧ Below w.heap.size w w' := by
  by_cases h : i % 64 = k % 64
  · exact detects_eq d hd i hi k hk h w hT
  · exact detects_ne d hd i hi k hk h w hT
