/- The walks of the laws. -/
import Derived.Test.YtfpodjfdmfobkaaDoorLaw
import Derived.Test.YtfpodjfdmfobkaaDoorWg
namespace Go.Proofs.YtfpodjfdmfobkaaDoor
open Go.RowKit
open Go

theorem cut_lt (d : Nat) : d % 2 ^ 57 < 144115188075855872 := Nat.mod_lt _ (by decide)
theorem encA (c : Nat) (h : c < 144115188075855872) : encV c = .agg #[.int .u64 (Ham.enc c : Nat), .int .i64 0] := encV0 h

/-- The word that was encoded, laid in a block of its own, and what may be read of it later. -/
structure Laid (w w2 W : World) (v : Int) : Prop where
  mem : W = w2.alloc (.cells #[.int .u64 v, .int .i64 0] 27)
  below : Below w.heap.size w w2
theorem Laid.all {w w2 W : World} {v : Int} (h : Laid w w2 W v) (x : Ext (w2.heap.size + 1) W) : Below w.heap.size w x.val ∧ x.val.cell? ⟨w2.heap.size, 0, none⟩ = some (.int .u64 v) ∧ x.val.cell? ⟨w2.heap.size, 1, none⟩ = some (.int .i64 0) := by
  obtain ⟨hm, hb⟩ := h
  have hs := hb.size
  subst hm
  refine ⟨(hb.alloc hs _).trans (x.below.mono (by omega)), ?_, ?_⟩
  · exact (x.cell (by simp)).trans (by simp [go_sem])
  · exact (x.cell (by simp)).trans (by simp [go_sem])
theorem Laid.hB {w w2 W : World} {v : Int} (h : Laid w w2 W v) : w2.heap.size + 1 ≤ W.heap.size := by rw [h.mem]; simp

set_option maxRecDepth 100000 in
set_option maxHeartbeats 1000000 in
theorem roundTrip_w (d : Nat) (hd : d < 18446744073709551616) (w : World) (hT : TabAt Lib.deBruijn64tab w) :
    Calls Tryd.prog 4 #[.int .u64 d] w fun e w' => e = .returned (.bool true) ∧ Below w.heap.size w w' := by
  have HT := Lib.hid (fun w' h => hT.below (w' := w') hT.pos h)
  have HD := Lib.hid (fun x : Ext w.heap.size w => xcut x d hd)
  have HN := Lib.hid (fun (x : Ext w.heap.size w) (h : ¬ d < 144115188075855872) => xenc x (Nat.le_refl _) (HT.out _ x.below) d d 0 1 rfl (encV1 h))
  have hcl := cut_lt d
  have HC := Lib.hid (fun w => cut_w d hd w)
  generalize hc : d % 2 ^ 57 = c at *
  have HE := Lib.hid (encA c hcl)
  have hel := Ham.enc_lt c
  have HK := Lib.hid (Ham.chk_enc c hcl)
  have HV := Lib.hid ((decV0 (Ham.chk_enc c hcl)).trans (by rw [Ham.dat_enc c hcl]))
  generalize hv : Ham.enc c = v at *
  clear hT hc hv
  by_cases hb : d < 144115188075855872
  · have ht : (((d : Int) / 144115188075855872) != 0) = false := by rw [bne_eq_false_iff_eq]; omega
    clear hb
    go_enter Tryd.func4, Tryd.ntmps4
    go_upto_region 7 with ((first | (go_at_call 9; refine (examples_w _ (HT.out _ (Below.refl _ _))).mono ?_; rintro e w1 ⟨rfl, hb1⟩) | (go_at_call 12; refine (HC.out _).mono ?_; rintro e w' ⟨rfl, rfl⟩) | (go_at_call 10; refine (encoded_w _ _ (HT.out _ hb1)).mono ?_; rintro e w2 ⟨rfl, hb2⟩; rw [HE.out])))
    obtain ⟨W, hW⟩ : ∃ W, W = w2.alloc (.cells #[.int .u64 (v : Nat), .int .i64 0] 27) := ⟨_, rfl⟩
    rw [← hW]
    have HL := Lib.hid (show Laid w w2 W v from ⟨hW, hb1.trans (hb2.mono hb1.size)⟩)
    clear hW
    have c0 := fun x => (HL.out.all x).2.1
    have c1 := fun x => (HL.out.all x).2.2
    have K1 := Lib.hid (fun x : Ext (w2.heap.size + 1) W => xchk x (HT.out _ (HL.out.all x).1) v hel v 0 rfl (by rw [HK.out]; rfl))
    have K2 := Lib.hid (fun x : Ext (w2.heap.size + 1) W => xdec x HL.out.hB (HT.out _ (HL.out.all x).1) v hel v c 0 0 rfl HV.out)
    have K3 := Lib.hid (fun x : Ext (w2.heap.size + 1) W => x.same (HC.out x.val))
    refine wp_region_held' (Ext.here (w2.heap.size + 1) W) rfl ?_
    repeat (go_big_quiet_step ((first | with_reducible exact K1.out _ | with_reducible exact K2.out _ | with_reducible exact K3.out _)))
    refine wpQuiet_nil ?_
    rintro _ ⟨x2, rfl⟩
    go_wp2
    go_ret
    exact ⟨rfl, (HL.out.all x2).1⟩
  · have ht : (((d : Int) / 144115188075855872) != 0) = true := by rw [bne_iff_ne]; omega
    have HN' := Lib.hid (fun x => HN.out x hb)
    clear hb
    go_enter Tryd.func4, Tryd.ntmps4
    go_upto_region 4 with (go_at_call 9; refine (examples_w _ (HT.out _ (Below.refl _ _))).mono ?_; rintro e w1 ⟨rfl, hb1⟩)
    refine wp_region_held' ⟨w1, hb1⟩ rfl ?_
    repeat (go_big_quiet_step ((first | with_reducible exact HN'.out _)))
    refine wpQuiet_nil ?_
    rintro _ ⟨x1, rfl⟩
    have hb1 := x1.below
    go_upto_region 7 with ((first | (go_at_call 9; refine (examples_w _ (HT.out _ (Below.refl _ _))).mono ?_; rintro e w1 ⟨rfl, hb1⟩) | (go_at_call 12; refine (HC.out _).mono ?_; rintro e w' ⟨rfl, rfl⟩) | (go_at_call 10; refine (encoded_w _ _ (HT.out _ hb1)).mono ?_; rintro e w2 ⟨rfl, hb2⟩; rw [HE.out])))
    obtain ⟨W, hW⟩ : ∃ W, W = w2.alloc (.cells #[.int .u64 (v : Nat), .int .i64 0] 27) := ⟨_, rfl⟩
    rw [← hW]
    have HL := Lib.hid (show Laid w w2 W v from ⟨hW, hb1.trans (hb2.mono hb1.size)⟩)
    clear hW
    have c0 := fun x => (HL.out.all x).2.1
    have c1 := fun x => (HL.out.all x).2.2
    have K1 := Lib.hid (fun x : Ext (w2.heap.size + 1) W => xchk x (HT.out _ (HL.out.all x).1) v hel v 0 rfl (by rw [HK.out]; rfl))
    have K2 := Lib.hid (fun x : Ext (w2.heap.size + 1) W => xdec x HL.out.hB (HT.out _ (HL.out.all x).1) v hel v c 0 0 rfl HV.out)
    have K3 := Lib.hid (fun x : Ext (w2.heap.size + 1) W => x.same (HC.out x.val))
    refine wp_region_held' (Ext.here (w2.heap.size + 1) W) rfl ?_
    repeat (go_big_quiet_step ((first | with_reducible exact K1.out _ | with_reducible exact K2.out _ | with_reducible exact K3.out _)))
    refine wpQuiet_nil ?_
    rintro _ ⟨x2, rfl⟩
    go_wp2
    go_ret
    exact ⟨rfl, (HL.out.all x2).1⟩
