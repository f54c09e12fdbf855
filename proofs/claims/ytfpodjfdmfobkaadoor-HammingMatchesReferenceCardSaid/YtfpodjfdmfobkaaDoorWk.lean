/- The walks of the laws: distances. -/
import Derived.Test.YtfpodjfdmfobkaaDoorWj
namespace Go.Proofs.YtfpodjfdmfobkaaDoor
open Go.RowKit
open Go

theorem deq_test (a b n : Nat) (h : n = 0 ↔ a = b) : (((n : Int) == 0) == ((a : Int) == (b : Int))) = true := by
  rw [beq_iff_eq, Bool.eq_iff_iff, beq_iff_eq, beq_iff_eq]; omega
theorem enc_above {w : World} (hT : TabAt Lib.deBruijn64tab w) (c : Nat) (V : Value) (hV : encV c = V) (W : World) (h : Below w.heap.size w W) :
    Calls Tryd.prog 10 #[.int .u64 c] W fun e w' => e = .returned V ∧ Below w.heap.size w w' :=
  (encoded_w c W (hT.below hT.pos h)).mono fun _ _ ⟨he, hb⟩ => ⟨by rw [he, hV], h.trans (hb.mono h.size)⟩
structure Laid3 (w w4 W : World) (v u y : Int) : Prop where
  mem : W = ((w4.alloc (.cells #[.int .u64 v, .int .i64 0] 27)).alloc (.cells #[.int .u64 u, .int .i64 0] 27)).alloc (.cells #[.int .u64 y, .int .i64 0] 27)
  below : Below w.heap.size w w4
theorem Laid3.all {w w4 W : World} {v u y : Int} (h : Laid3 w w4 W v u y) (x : Ext (w4.heap.size + 3) W) : Below w.heap.size w x.val ∧
    (x.val.cell? ⟨w4.heap.size, 0, none⟩ = some (.int .u64 v) ∧ x.val.cell? ⟨w4.heap.size, 1, none⟩ = some (.int .i64 0)) ∧
    (x.val.cell? ⟨w4.heap.size + 1, 0, none⟩ = some (.int .u64 u) ∧ x.val.cell? ⟨w4.heap.size + 1, 1, none⟩ = some (.int .i64 0)) ∧
    (x.val.cell? ⟨w4.heap.size + 1 + 1, 0, none⟩ = some (.int .u64 y) ∧ x.val.cell? ⟨w4.heap.size + 1 + 1, 1, none⟩ = some (.int .i64 0)) := by
  obtain ⟨hm, hb⟩ := h
  have hs := hb.size
  subst hm
  refine ⟨(((hb.alloc hs _).alloc (by simp; omega) _).alloc (by simp; omega) _).trans (x.below.mono (by omega)), ⟨?_, ?_⟩, ⟨?_, ?_⟩, ⟨?_, ?_⟩⟩
  all_goals exact (x.cell (by simp)).trans (by simp [go_sem])

set_option maxRecDepth 100000 in
set_option maxHeartbeats 1000000 in
theorem distances_w (d : Nat) (hd : d < 18446744073709551616) (f : Nat) (hf : f < 18446744073709551616) (w : World) (hT : TabAt Lib.deBruijn64tab w) :
    Calls Tryd.prog 7 #[.int .u64 d, .int .u64 f] w fun e w' => e = .returned (.bool true) ∧ Below w.heap.size w w' := by
  have HT := Lib.hid (fun w' h => hT.below (w' := w') hT.pos h)
  have hdf : d ^^^ f < 18446744073709551616 := Ham.xor_lt (n := 64) hd hf
  have HX := bits_xor_u64_nat d f hd hf
  have hcl := cut_lt d
  have hgl := cut_lt f
  have hxc : (d ^^^ f) % 2 ^ 57 = d % 2 ^ 57 ^^^ f % 2 ^ 57 := Nat.xor_mod_two_pow
  have hxl : d % 2 ^ 57 ^^^ f % 2 ^ 57 < 144115188075855872 := Ham.xor_lt (n := 57) hcl hgl
  have HC := Lib.hid (fun w => cut_w d hd w)
  have HG := Lib.hid (fun w => cut_w f hf w)
  have HS := Lib.hid (fun w => cut_w (d ^^^ f) hdf w)
  rw [hxc] at HS
  generalize d ^^^ f = z at *
  clear hxc
  generalize d % 2 ^ 57 = c at *
  generalize f % 2 ^ 57 = g at *
  have HE := Lib.hid (encA c hcl)
  have HE2 := Lib.hid (encA g hgl)
  have HE3 := Lib.hid (encA (c ^^^ g) hxl)
  have hel := Ham.enc_lt c
  have hel2 := Ham.enc_lt g
  have ha := Ham.enc_lin.add c g
  have hw := Ham.weight (c ^^^ g) hxl
  have hz : c ^^^ g = 0 ↔ c = g := ⟨fun h => Classical.byContradiction fun hn => Ham.xor_ne hn h, fun h => by rw [h, Nat.xor_self]⟩
  rw [hz] at hw
  rw [ha] at hw HE3
  clear hz ha
  have HX2 := bits_xor_u64_nat (Ham.enc c) (Ham.enc g) hel hel2
  obtain ⟨n, hn⟩ : ∃ n, Ham.ones (Ham.enc c ^^^ Ham.enc g) 64 = n := ⟨_, rfl⟩
  rw [hn] at hw
  have HN := Lib.hid hn
  clear hn
  generalize Ham.enc c = v at *
  generalize Ham.enc g = u at *
  generalize hvu : v ^^^ u = y at *
  have HVU := Lib.hid hvu
  clear hvu
  generalize c ^^^ g = cg at *
  have ht1 := deq_test c g n hw.1
  obtain ⟨b1, hb1⟩ : ∃ b, ((n : Int) == 0) = b := ⟨_, rfl⟩
  have h4 : b1 = false → 4 ≤ n := fun h => by rw [h, beq_eq_false_iff_ne] at hb1; have := hw.2; omega
  clear hw
  have HT1 := Lib.hid ht1
  have EC := Lib.hid (fun W h => enc_above hT c _ HE.out W h)
  have EG := Lib.hid (fun W h => enc_above hT g _ HE2.out W h)
  have ES := Lib.hid (fun W h => enc_above hT cg _ HE3.out W h)
  clear ht1 hT
  cases b1
  · have hn4 := h4 rfl
    have hd4 : decide ((4 : Int) ≤ (n : Int)) = true := by rw [decide_eq_true_eq]; omega
    clear h4
    have HB := Lib.hid hb1
    clear hb1
    go_enter Tryd.func7, Tryd.ntmps7
    go_upto_region 4 with (go_at_call 9; refine (examples_w _ (HT.out _ (Below.refl _ _))).mono ?_; rintro e w1 ⟨rfl, hb1⟩)
    go_upto_region 5 with ((first | (go_at_call 12; (first | with_reducible refine (HC.out _).mono ?_ | with_reducible refine (HG.out _).mono ?_ | with_reducible refine (HS.out _).mono ?_); rintro e w' ⟨rfl, rfl⟩) | (go_at_call 10; (first | with_reducible refine (EC.out _ (by assumption)).mono ?_ | with_reducible refine (EG.out _ (by assumption)).mono ?_ | with_reducible refine (ES.out _ (by assumption)).mono ?_); rintro e wz ⟨rfl, hbz⟩)))
    obtain ⟨W, hW⟩ : ∃ W, W = ((wz.alloc (.cells #[.int .u64 (v : Nat), .int .i64 0] 27)).alloc (.cells #[.int .u64 (u : Nat), .int .i64 0] 27)).alloc (.cells #[.int .u64 (y : Nat), .int .i64 0] 27) := ⟨_, rfl⟩
    rw [← hW]
    have HL := Lib.hid (show Laid3 w wz W v u y from ⟨hW, by assumption⟩)
    have hsz : wz.heap.size + 3 ≤ W.heap.size := by rw [hW]; simp
    clear hW
    have a0 := fun x => (HL.out.all x).2.1.1
    have a1 := fun x => (HL.out.all x).2.1.2
    have b0 := fun x => (HL.out.all x).2.2.1.1
    have b2 := fun x => (HL.out.all x).2.2.1.2
    have c0 := fun x => (HL.out.all x).2.2.2.1
    have c1 := fun x => (HL.out.all x).2.2.2.2
    have K3 := Lib.hid (fun x : Ext (wz.heap.size + 3) W => x.same (HC.out x.val))
    have K4 := Lib.hid (fun x : Ext (wz.heap.size + 3) W => x.same (HG.out x.val))
    have K5 := Lib.hid (fun x : Ext (wz.heap.size + 3) W => xdist x v u hel hel2 v u n rfl rfl (by rw [HVU.out, HN.out]))
    refine wp_region_held' (Ext.here (wz.heap.size + 3) W) rfl ?_
    repeat (go_big_quiet_step (fail))
    refine wpQuiet_nil ?_
    rintro _ ⟨x2, rfl⟩
    go_upto_region 7 with (fail)
    refine wp_region_held' x2 rfl ?_
    repeat (go_big_quiet_step (with_reducible exact K5.out _))
    refine wpQuiet_nil ?_
    rintro _ ⟨x3, rfl⟩
    go_upto_region 8 with (fail)
    have hB := HB.out
    have ht1 := HT1.out
    rw [hB, beq_iff_eq] at ht1
    have ht2 := ht1.symm
    clear ht1
    refine wp_region_held' x3 rfl ?_
    repeat (go_big_quiet_step ((first | with_reducible exact K3.out _ | with_reducible exact K4.out _)))
    refine wpQuiet_nil ?_
    rintro _ ⟨x4, rfl⟩
    go_wp2
    go_ret
    exact ⟨rfl, (HL.out.all x4).1⟩
  · clear h4
    have HB := Lib.hid hb1
    clear hb1
    go_enter Tryd.func7, Tryd.ntmps7
    go_upto_region 4 with (go_at_call 9; refine (examples_w _ (HT.out _ (Below.refl _ _))).mono ?_; rintro e w1 ⟨rfl, hb1⟩)
    go_upto_region 5 with ((first | (go_at_call 12; (first | with_reducible refine (HC.out _).mono ?_ | with_reducible refine (HG.out _).mono ?_ | with_reducible refine (HS.out _).mono ?_); rintro e w' ⟨rfl, rfl⟩) | (go_at_call 10; (first | with_reducible refine (EC.out _ (by assumption)).mono ?_ | with_reducible refine (EG.out _ (by assumption)).mono ?_ | with_reducible refine (ES.out _ (by assumption)).mono ?_); rintro e wz ⟨rfl, hbz⟩)))
    obtain ⟨W, hW⟩ : ∃ W, W = ((wz.alloc (.cells #[.int .u64 (v : Nat), .int .i64 0] 27)).alloc (.cells #[.int .u64 (u : Nat), .int .i64 0] 27)).alloc (.cells #[.int .u64 (y : Nat), .int .i64 0] 27) := ⟨_, rfl⟩
    rw [← hW]
    have HL := Lib.hid (show Laid3 w wz W v u y from ⟨hW, by assumption⟩)
    have hsz : wz.heap.size + 3 ≤ W.heap.size := by rw [hW]; simp
    clear hW
    have a0 := fun x => (HL.out.all x).2.1.1
    have a1 := fun x => (HL.out.all x).2.1.2
    have b0 := fun x => (HL.out.all x).2.2.1.1
    have b2 := fun x => (HL.out.all x).2.2.1.2
    have c0 := fun x => (HL.out.all x).2.2.2.1
    have c1 := fun x => (HL.out.all x).2.2.2.2
    have K3 := Lib.hid (fun x : Ext (wz.heap.size + 3) W => x.same (HC.out x.val))
    have K4 := Lib.hid (fun x : Ext (wz.heap.size + 3) W => x.same (HG.out x.val))
    have K5 := Lib.hid (fun x : Ext (wz.heap.size + 3) W => xdist x v u hel hel2 v u n rfl rfl (by rw [HVU.out, HN.out]))
    refine wp_region_held' (Ext.here (wz.heap.size + 3) W) rfl ?_
    repeat (go_big_quiet_step (fail))
    refine wpQuiet_nil ?_
    rintro _ ⟨x2, rfl⟩
    go_upto_region 7 with (fail)
    refine wp_region_held' x2 rfl ?_
    repeat (go_big_quiet_step (with_reducible exact K5.out _))
    refine wpQuiet_nil ?_
    rintro _ ⟨x3, rfl⟩
    go_upto_region 8 with (fail)
    have hB := HB.out
    have ht1 := HT1.out
    rw [hB, beq_iff_eq] at ht1
    have ht2 := ht1.symm
    clear ht1
    refine wp_region_held' x3 rfl ?_
    repeat (go_big_quiet_step ((first | with_reducible exact K3.out _ | with_reducible exact K4.out _)))
    refine wpQuiet_nil ?_
    rintro _ ⟨x4, rfl⟩
    go_wp2
    go_ret
    exact ⟨rfl, (HL.out.all x4).1⟩
