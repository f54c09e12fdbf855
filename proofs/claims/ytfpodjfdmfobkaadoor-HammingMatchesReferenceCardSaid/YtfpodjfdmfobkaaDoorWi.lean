/- The walks of the laws: one bit inverted. -/
import Derived.Test.YtfpodjfdmfobkaaDoorWh
namespace Go.Proofs.YtfpodjfdmfobkaaDoor
open Go.RowKit
open Go

theorem mod64 (i : Nat) : i % 64 < 64 := Nat.mod_lt _ (by decide)
set_option maxRecDepth 100000 in
set_option maxHeartbeats 1000000 in
theorem corrects_w (d : Nat) (hd : d < 18446744073709551616) (i : Nat) (hi : i < 256) (w : World) (hT : TabAt Lib.deBruijn64tab w) :
    Calls Tryd.prog 5 #[.int .u64 d, .int .u8 i] w fun e w' => e = .returned (.bool true) ∧ Below w.heap.size w w' := by
  have HT := Lib.hid (fun w' h => hT.below (w' := w') hT.pos h)
  have hcl := cut_lt d
  have HC := Lib.hid (fun w => cut_w d hd w)
  generalize hc : d % 2 ^ 57 = c at *
  have HE := Lib.hid (encA c hcl)
  have hel := Ham.enc_lt c
  have hj := mod64 i
  have HJ := Lib.hid (show (i : Int) % 64 = ((i % 64 : Nat) : Int) by omega)
  have hxl := x64 (Ham.enc c) (i % 64) hel hj
  have hp := Ham.par_flip (Ham.enc c) (i % 64) hj
  have hs := Ham.syn_flip (Ham.enc c) (i % 64) hj
  rw [Ham.syn_enc c hcl, Nat.zero_xor] at hs
  have hk1 : Ham.chk (Ham.enc c ^^^ 2 ^ (i % 64)) = 1 := (Ham.chk_one _).2 (by have := Ham.par_enc c hcl; omega)
  have HK := Lib.hid hk1
  have HV := Lib.hid ((decV1 hk1).trans (by rw [hs, Ham.flip_flip, Ham.dat_enc c hcl]))
  have HO := Lib.hid (show Ham.ones (Ham.enc c ^^^ 2 ^ (i % 64) ^^^ Ham.enc c) 64 = 1 by rw [Nat.xor_comm, Ham.xcl, Ham.ones_two_pow, if_pos hj])
  have HF := Lib.hid (Ham.flip_flip (Ham.enc c) (i % 64))
  generalize i % 64 = j at *
  generalize hv : Ham.enc c = v at *
  generalize hu : v ^^^ 2 ^ j = u at *
  have HU := Lib.hid hu
  clear hT hc hv hu hp hs hk1
  go_enter Tryd.func5, Tryd.ntmps5
  go_upto_region 5 with ((first | (go_at_call 9; refine (examples_w _ (HT.out _ (Below.refl _ _))).mono ?_; rintro e w1 ⟨rfl, hb1⟩) | (go_at_call 12; refine (HC.out _).mono ?_; rintro e w' ⟨rfl, rfl⟩) | (go_at_call 10; refine (encoded_w _ _ (HT.out _ hb1)).mono ?_; rintro e w2 ⟨rfl, hb2⟩; rw [HE.out])))
  obtain ⟨W, hW⟩ : ∃ W, W = w2.alloc (.cells #[.int .u64 (v : Nat), .int .i64 0] 27) := ⟨_, rfl⟩
  rw [← hW]
  have HL := Lib.hid (show Laid w w2 W v from ⟨hW, hb1.trans (hb2.mono hb1.size)⟩)
  clear hW
  have c0 := fun x => (HL.out.all x).2.1
  have c1 := fun x => (HL.out.all x).2.2
  have F1 := Lib.hid (fun x : Ext (w2.heap.size + 1) W => xflip x v j hel hj v j u rfl rfl (by rw [HU.out]))
  have F2 := Lib.hid (fun x : Ext (w2.heap.size + 1) W => xflip x u j hxl hj u j v rfl rfl (by rw [HF.out]))
  have K1 := Lib.hid (fun x : Ext (w2.heap.size + 1) W => xchk x (HT.out _ (HL.out.all x).1) u hxl u 1 rfl (by rw [HK.out]; rfl))
  have K2 := Lib.hid (fun x : Ext (w2.heap.size + 1) W => xdec x HL.out.hB (HT.out _ (HL.out.all x).1) u hxl u c 1 0 rfl HV.out)
  have K3 := Lib.hid (fun x : Ext (w2.heap.size + 1) W => x.same (HC.out x.val))
  have K4 := Lib.hid (fun x : Ext (w2.heap.size + 1) W => xdist x u v hxl hel u v 1 rfl rfl (by rw [HO.out]; rfl))
  refine wp_region_held' (Ext.here (w2.heap.size + 1) W) rfl ?_
  repeat (go_big_quiet_step ((first | (rw [HJ.out]; with_reducible exact F1.out _))))
  refine wpQuiet_nil ?_
  rintro _ ⟨x2, rfl⟩
  go_upto_region 6 with (fail)
  refine wp_region_held x2 rfl (by kernel_rfl) (by kernel_rfl) ?_
  repeat (go_big_quiet_step ((first | (rw [HJ.out]; with_reducible exact F2.out _) | with_reducible exact K1.out _ | with_reducible exact K2.out _ | with_reducible exact K3.out _ | with_reducible exact K4.out _)))
  refine wpQuiet_nil ?_
  rintro _ ⟨x3, rfl⟩
  go_wp2
  go_ret
  exact ⟨rfl, (HL.out.all x3).1⟩
