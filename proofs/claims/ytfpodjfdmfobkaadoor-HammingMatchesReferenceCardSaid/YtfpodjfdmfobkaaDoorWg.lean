/- Contracts: the law's own helpers. -/
import Derived.Deep.CutBlock
import Derived.Test.YtfpodjfdmfobkaaDoorHeld
import Derived.Test.YtfpodjfdmfobkaaDoorWf
namespace Go.Proofs.YtfpodjfdmfobkaaDoor
open Go.RowKit
open Go

theorem cut_w (x : Nat) (hx : x < 18446744073709551616) (w : World) :
    Calls Tryd.prog 12 #[.int .u64 x] w fun e w' => e = .returned (.int .u64 (x % 2 ^ 57 : Nat)) ∧ w = w' := by
  have H := bits_and_u64_nat x 144115188075855871 hx (by decide)
  rw [show (144115188075855871 : Nat) = 2 ^ 57 - 1 from rfl, Nat.and_two_pow_sub_one_eq_mod] at H
  have HH := Lib.hid H
  clear H
  go_enter Tryd.func12, Tryd.ntmps12
  go_wp2
  go_ret
  exact ⟨ret_u64 HH.out, rfl⟩
theorem encoded_w (d : Nat) (w : World) (hT : TabAt Lib.deBruijn64tab w) :
    Calls Tryd.prog 10 #[.int .u64 d] w fun e w' => e = .returned (encV d) ∧ Below w.heap.size w w' := by
  have HT := Lib.hid (hT.below hT.pos ((Below.refl _ _).alloc (Nat.le_refl _) (.cells #[.int .u64 0, .int .i64 0] 27)))
  clear hT
  obtain ⟨u, v, hE, hV⟩ : ∃ u v : Int, encT d = .tuple #[.int .u64 u, .int .i64 v] ∧ encV d = Word u v := by
    by_cases h : d < 144115188075855872
    · exact ⟨_, _, encT0 h, encV0 h⟩
    · exact ⟨_, _, encT1 h, encV1 h⟩
  have HE := Lib.hid hE
  have HV := Lib.hid hV
  clear hE hV
  go_enter Tryd.func10, Tryd.ntmps10
  go_wp2_with (go_at_call 21; refine (enc_w d _ HT.out).mono ?_; rintro e w1 ⟨rfl, hb⟩; rw [HE.out]; (have c0 : w1.cell? ⟨w.heap.size, 0, none⟩ = some (.int .u64 0) := (hb.cell (by simp)).trans (by simp [go_sem])); (have c1 : w1.cell? ⟨w.heap.size, 1, none⟩ = some (.int .i64 0) := (hb.cell (by simp)).trans (by simp [go_sem])); (have f0 : w1.frozen? ⟨w.heap.size, 0, none⟩ = false := (hb.frozen (by simp)).trans (by simp [go_sem])); (have f1 : w1.frozen? ⟨w.heap.size, 1, none⟩ = false := (hb.frozen (by simp)).trans (by simp [go_sem])))
  exact bodyPost_ret (v := Word u v) (by simp [results, Tryd.results10, go_sem, Word, c0, c1]) rfl ⟨by rw [HV.out], ((((Below.refl w.heap.size w).alloc (Nat.le_refl _) _).trans (hb.mono (by simp))).setCell (Nat.le_refl _) _).setCell (Nat.le_refl _) _⟩
theorem decoded_w (x : Nat) (hx : x < 18446744073709551616) (w : World) (hT : TabAt Lib.deBruijn64tab w) :
    Calls Tryd.prog 19 #[.int .u64 x] w fun e w' => e = .returned (decV x) ∧ Below w.heap.size w w' := by
  have HT := Lib.hid (hT.below hT.pos ((Below.refl _ _).alloc (Nat.le_refl _) (.cells #[.int .u64 0, .int .i64 0, .int .i64 0] 35)))
  clear hT
  obtain ⟨u, v, s, hE, hV⟩ : ∃ u v s : Int, decT x = .tuple #[.int .u64 u, .int .i64 v, .int .i64 s] ∧ decV x = Decd u v s := by
    have hc := Ham.chk_le x
    obtain h | h | h : Ham.chk x = 0 ∨ Ham.chk x = 1 ∨ Ham.chk x = 2 := by omega
    · exact ⟨_, _, _, decT0 h, decV0 h⟩
    · exact ⟨_, _, _, decT1 h, decV1 h⟩
    · exact ⟨_, _, _, decT2 h, decV2 h⟩
  have HE := Lib.hid hE
  have HV := Lib.hid hV
  clear hE hV
  go_enter Tryd.func19, Tryd.ntmps19
  go_wp2_with (go_at_call 28; refine (dec_w x hx _ HT.out).mono ?_; rintro e w1 ⟨rfl, hb⟩; rw [HE.out]; (have c0 : w1.cell? ⟨w.heap.size, 0, none⟩ = some (.int .u64 0) := (hb.cell (by simp)).trans (by simp [go_sem])); (have c1 : w1.cell? ⟨w.heap.size, 1, none⟩ = some (.int .i64 0) := (hb.cell (by simp)).trans (by simp [go_sem])); (have c2 : w1.cell? ⟨w.heap.size, 2, none⟩ = some (.int .i64 0) := (hb.cell (by simp)).trans (by simp [go_sem])); (have f0 : w1.frozen? ⟨w.heap.size, 0, none⟩ = false := (hb.frozen (by simp)).trans (by simp [go_sem])); (have f1 : w1.frozen? ⟨w.heap.size, 1, none⟩ = false := (hb.frozen (by simp)).trans (by simp [go_sem])); (have f2 : w1.frozen? ⟨w.heap.size, 2, none⟩ = false := (hb.frozen (by simp)).trans (by simp [go_sem])))
  exact bodyPost_ret (v := Decd u v s) (by simp [results, Tryd.results19, go_sem, Decd, c0, c1, c2]) rfl ⟨by rw [HV.out], (((((Below.refl w.heap.size w).alloc (Nat.le_refl _) _).trans (hb.mono (by simp))).setCell (Nat.le_refl _) _).setCell (Nat.le_refl _) _).setCell (Nat.le_refl _) _⟩

/-- The calls of the law's helpers, in whatever world lies above w. -/
theorem xenc {w : World} {B : Nat} (x : Ext B w) (hB : B ≤ w.heap.size) (hT : TabAt Lib.deBruijn64tab x.val) (d : Nat) (c u v : Int) (hc : (d : Int) = c) (h : encV d = Word u v) :
    Calls Tryd.prog 10 #[.int .u64 c] x.val fun e w'' => e = .returned (.agg #[.int .u64 u, .int .i64 v]) ∧ ∃ y : Ext B w, w'' = y.val := by
  subst hc
  have := encoded_w d x.val hT
  rw [h] at this
  exact x.call hB this
theorem xdec {w : World} {B : Nat} (x : Ext B w) (hB : B ≤ w.heap.size) (hT : TabAt Lib.deBruijn64tab x.val) (d : Nat) (hd : d < 18446744073709551616) (c u v s : Int) (hc : (d : Int) = c) (h : decV d = Decd u v s) :
    Calls Tryd.prog 19 #[.int .u64 c] x.val fun e w'' => e = .returned (.agg #[.int .u64 u, .int .i64 v, .int .i64 s]) ∧ ∃ y : Ext B w, w'' = y.val := by
  subst hc
  have := decoded_w d hd x.val hT
  rw [h] at this
  exact x.call hB this
theorem xchk {w : World} {B : Nat} (x : Ext B w) (hT : TabAt Lib.deBruijn64tab x.val) (d : Nat) (hd : d < 18446744073709551616) (c u : Int) (hc : (d : Int) = c) (h : (Ham.chk d : Int) = u) :
    Calls Tryd.prog 17 #[.int .u64 c] x.val fun e w'' => e = .returned (.int .i64 u) ∧ ∃ y : Ext B w, w'' = y.val := by
  subst hc
  subst h
  exact x.same (chk_w d hd x.val hT)
theorem xflip {w : World} {B : Nat} (x : Ext B w) (d i : Nat) (hd : d < 18446744073709551616) (hi : i < 64) (c j u : Int) (hc : (d : Int) = c) (hj : (i : Int) = j) (h : ((d ^^^ 2 ^ i : Nat) : Int) = u) :
    Calls Tryd.prog 13 #[.int .u64 c, .int .i64 j] x.val fun e w'' => e = .returned (.int .u64 u) ∧ ∃ y : Ext B w, w'' = y.val := by
  subst hc; subst hj; subst h
  exact x.same (flip_on d hd i x.val hi)
theorem xflip_off {w : World} {B : Nat} (x : Ext B w) (d : Nat) (c j : Int) (hc : (d : Int) = c) (hj : j < 0 ∨ 63 < j) :
    Calls Tryd.prog 13 #[.int .u64 c, .int .i64 j] x.val fun e w'' => e = .returned (.int .u64 c) ∧ ∃ y : Ext B w, w'' = y.val := by
  subst hc
  exact x.same (flip_off d j x.val hj)
theorem xdist {w : World} {B : Nat} (x : Ext B w) (a b : Nat) (ha : a < 18446744073709551616) (hb : b < 18446744073709551616) (c j u : Int) (hc : (a : Int) = c) (hj : (b : Int) = j) (h : (Ham.ones (a ^^^ b) 64 : Int) = u) :
    Calls Tryd.prog 15 #[.int .u64 c, .int .u64 j] x.val fun e w'' => e = .returned (.int .i64 u) ∧ ∃ y : Ext B w, w'' = y.val := by
  subst hc; subst hj; subst h
  exact x.same (dist_w a b ha hb x.val)
theorem xcut {w : World} {B : Nat} (x : Ext B w) (d : Nat) (hd : d < 18446744073709551616) :
    Calls Tryd.prog 12 #[.int .u64 d] x.val fun e w'' => e = .returned (.int .u64 (d % 2 ^ 57 : Nat)) ∧ ∃ y : Ext B w, w'' = y.val :=
  x.same (cut_w d hd x.val)
set_option maxRecDepth 100000 in
set_option maxHeartbeats 1000000 in
theorem examples_w (w : World) (hT : TabAt Lib.deBruijn64tab w) :
    Calls Tryd.prog 9 #[] w fun e w' => e = .returned (.bool true) ∧ Below w.heap.size w w' := by
  have HT := Lib.hid (fun x : Ext w.heap.size w => hT.below hT.pos x.below)
  clear hT
  have E0 := Lib.hid (fun x : Ext w.heap.size w => xenc x (Nat.le_refl _) (HT.out x) 0 0 0 0 rfl (by rw [encV0 (by decide), show Ham.enc 0 = 0 by decide +kernel]; rfl))
  have E1 := Lib.hid (fun x : Ext w.heap.size w => xenc x (Nat.le_refl _) (HT.out x) 1 1 15 0 rfl (by rw [encV0 (by decide), show Ham.enc 1 = 15 by decide +kernel]; rfl))
  have E2 := Lib.hid (fun x : Ext w.heap.size w => xenc x (Nat.le_refl _) (HT.out x) 2 2 51 0 rfl (by rw [encV0 (by decide), show Ham.enc 2 = 51 by decide +kernel]; rfl))
  have E3 := Lib.hid (fun x : Ext w.heap.size w => xenc x (Nat.le_refl _) (HT.out x) 3 3 60 0 rfl (by rw [encV0 (by decide), show Ham.enc 3 = 60 by decide +kernel]; rfl))
  have E4 := Lib.hid (fun x : Ext w.heap.size w => xenc x (Nat.le_refl _) (HT.out x) 144115188075855872 144115188075855872 0 1 rfl (encV1 (by decide)))
  have C15 := Lib.hid (fun x : Ext w.heap.size w => xchk x (HT.out x) 15 (by decide) 15 0 rfl (by decide +kernel))
  have C14 := Lib.hid (fun x : Ext w.heap.size w => xchk x (HT.out x) 14 (by decide) 14 1 rfl (by decide +kernel))
  have C12 := Lib.hid (fun x : Ext w.heap.size w => xchk x (HT.out x) 12 (by decide) 12 2 rfl (by decide +kernel))
  have D14 := Lib.hid (fun x : Ext w.heap.size w => xdec x (Nat.le_refl _) (HT.out x) 14 (by decide) 14 1 1 0 rfl (by rw [decV1 (by decide +kernel), show Ham.dat (14 ^^^ 2 ^ Ham.syn 14 64) 57 = 1 by decide +kernel]; rfl))
  have D12 := Lib.hid (fun x : Ext w.heap.size w => xdec x (Nat.le_refl _) (HT.out x) 12 (by decide) 12 0 0 6 rfl (decV2 (by decide +kernel)))
  have F3 := Lib.hid (fun x : Ext w.heap.size w => xflip x 15 3 (by decide) (by decide) 15 3 7 rfl rfl (by decide +kernel))
  have F64 := Lib.hid (fun x : Ext w.heap.size w => xflip_off x 15 15 64 rfl (by decide))
  have DI := Lib.hid (fun x : Ext w.heap.size w => xdist x 15 60 (by decide) (by decide) 15 60 4 rfl rfl (by decide +kernel))
  go_enter Tryd.func9, Tryd.ntmps9
  go_upto_region 1 with (fail)
  refine wp_region_held' (Ext.here w.heap.size w) rfl ?_
  repeat (go_big_quiet_step ((first | with_reducible exact E0.out _ | with_reducible exact E1.out _ | with_reducible exact E2.out _ | with_reducible exact E3.out _ | with_reducible exact E4.out _)))
  refine wpQuiet_nil ?_
  rintro _ ⟨x1, rfl⟩
  go_upto_region 3 with (fail)
  refine wp_region_held' x1 rfl ?_
  repeat (go_big_quiet_step ((first | with_reducible exact C15.out _ | with_reducible exact C14.out _ | with_reducible exact C12.out _ | with_reducible exact D14.out _ | with_reducible exact D12.out _ | with_reducible exact F3.out _ | with_reducible exact F64.out _ | with_reducible exact DI.out _)))
  refine wpQuiet_nil ?_
  rintro _ ⟨x2, rfl⟩
  go_wp2
  go_ret
  exact ⟨rfl, x2.below⟩
