/- Contracts: the program's decoder. -/
import Derived.RegionIn
import Derived.Test.YtfpodjfdmfobkaaDoorWe
namespace Go.Proofs.YtfpodjfdmfobkaaDoor
open Go.RowKit Go.Shelf
open Go
attribute [local go_sem] Oper.semAt_some
def decT (x : Nat) : Value := if Ham.chk x = 0 then .tuple #[.int .u64 (Ham.dat x 57 : Nat), .int .i64 0, .int .i64 0] else if Ham.chk x = 1 then .tuple #[.int .u64 (Ham.dat (x ^^^ 2 ^ Ham.syn x 64) 57 : Nat), .int .i64 1, .int .i64 0] else .tuple #[.int .u64 0, .int .i64 0, .int .i64 6]
theorem decT0 {x : Nat} (h : Ham.chk x = 0) : decT x = .tuple #[.int .u64 (Ham.dat x 57 : Nat), .int .i64 0, .int .i64 0] := by unfold decT; rw [if_pos h]
theorem decT1 {x : Nat} (h : Ham.chk x = 1) : decT x = .tuple #[.int .u64 (Ham.dat (x ^^^ 2 ^ Ham.syn x 64) 57 : Nat), .int .i64 1, .int .i64 0] := by unfold decT; rw [if_neg (by omega), if_pos h]
theorem decT2 {x : Nat} (h : Ham.chk x = 2) : decT x = .tuple #[.int .u64 0, .int .i64 0, .int .i64 6] := by unfold decT; rw [if_neg (by omega), if_neg (by omega)]
def accD (y : Nat) (pre : List (Fin 57)) : Nat := pre.foldl (fun a i => if y.testBit (Ham.place i.1) then a ||| 2 ^ i.1 else a) 0
theorem accD_snoc (d : Nat) (pre : List (Fin 57)) (x : Fin 57) : accD d (pre ++ [x]) = if d.testBit (Ham.place x.1) then accD d pre ||| 2 ^ x.1 else accD d pre := by simp [accD]
theorem accD_upTo (d : Nat) : ∀ k, k ≤ 57 → accD d (upTo k) = Ham.dat d k
  | 0, _ => rfl
  | k + 1, h => by rw [upTo_succ (by omega), accD_snoc, Ham.dat_step d k, accD_upTo d k (by omega)]
theorem accD_lt (d : Nat) (pre : List (Fin 57)) : accD d pre < 18446744073709551616 := by
  unfold accD
  suffices h : ∀ a, a < 2 ^ 64 → pre.foldl (fun a (i : Fin 57) => if d.testBit (Ham.place i.1) then a ||| 2 ^ i.1 else a) a < 2 ^ 64 from h 0 (by decide)
  induction pre with
  | nil => intro a ha; exact ha
  | cons x l ih =>
    intro a ha
    rw [List.foldl_cons]
    apply ih
    split
    · exact Nat.or_lt_two_pow ha (Nat.pow_lt_pow_right (by decide) (by omega))
    · exact ha
theorem dec_bad (x : Nat) (hx : x < 18446744073709551616) (hc : Ham.chk x = 2) (w : World) (hT : TabAt Lib.deBruijn64tab w) :
    Calls Tryd.prog 28 #[.int .u64 x] w fun e w' => e = .returned (decT x) ∧ Below w.heap.size w w' := by
  have HV := Lib.hid (decT2 hc)
  have HC := Lib.hid hc
  have HT := Lib.hid (fun w' h => hT.below (w' := w') hT.pos h)
  clear hT hc
  go_enter Tryd.func28, Tryd.ntmps28
  go_wp2_with (go_at_call 17; refine (chk_w x hx _ (HT.out _ ((Below.refl _ _).alloc (Nat.le_refl _) _))).mono ?_; rintro e w' ⟨rfl, rfl⟩; rw [HC.out])
  go_ret3
  exact ⟨by rw [HV.out]; rfl, (Below.refl _ _).alloc (Nat.le_refl _) _⟩
theorem or_shl (a y p i : Nat) (ha : a < 18446744073709551616) (hy : y < 18446744073709551616) (hi : i < 64) :
    bits .or .u64 (a : Int) (IntKind.u64.wrap (bits .and .u64 ((y : Int) / (2 : Int) ^ p) 1 * (2 : Int) ^ i)) = ((if y.testBit p then a ||| 2 ^ i else a : Nat) : Int) := by
  rw [bitI y p hy]
  cases y.testBit p
  · have h0 := bits_or_u64_nat a 0 ha (by decide)
    rw [Nat.or_zero] at h0
    simp only [Bool.false_eq_true, if_false, Int.zero_mul]
    rw [show IntKind.u64.wrap 0 = ((0 : Nat) : Int) from by decide]
    exact h0
  · simp only [if_true, Int.one_mul]
    exact or_pow a i ha hi
set_option maxRecDepth 100000 in
set_option maxHeartbeats 1000000 in
theorem dec_one (x : Nat) (hx : x < 18446744073709551616) (hc : Ham.chk x = 1) (w : World) (hT : TabAt Lib.deBruijn64tab w) :
    Calls Tryd.prog 28 #[.int .u64 x] w fun e w' => e = .returned (decT x) ∧ Below w.heap.size w w' := by
  have HV := Lib.hid (decT1 hc)
  have HC := Lib.hid hc
  have HT := Lib.hid (fun w' h => hT.below (w' := w') hT.pos h)
  clear hT hc
  have hsl := Ham.syn_lt x 64 (by decide)
  refine (callsIn_wide (n := 9)).1 ?_
  refine callsIn_of_wp_marks Tryd.func28 rfl trivial ?_ rfl
  simp only [Tryd.ntmps28, List.size_toArray, List.length_cons, List.length_nil, Nat.reduceAdd, Nat.reduceSub, Array.replicate_succ, Array.replicate_zero, List.push_toArray, List.append_toArray, List.nil_append, List.cons_append]
  gi_wp2_with (refine ⟨trivial, ?_⟩; gi_at_call 17; refine (callsIn_wide.2 (chk_w x hx _ (HT.out _ ((Below.refl _ _).alloc (Nat.le_refl _) _)))).mono ?_; rintro e w' ⟨rfl, rfl⟩; rw [HC.out])
  refine wpIn_mono (Q := fun e a w' => e = Exit.normal ∧ a = { tmps := #[.int .u64 x, .pointer (some ⟨w.heap.size, 0, none⟩), .int .u64 0, .int .i64 0, .int .i64 0, .int .i64 1, undef, undef, undef, .int .u64 x, .int .i64 1, .int .i64 1, .bool false, .int .i64 1, .bool true, .int .u64 x, .int .u64 x, .int .i64 (Ham.syn x 64 : Nat), .int .u64 (x ^^^ 2 ^ Ham.syn x 64 : Nat), undef, undef, undef, undef, undef, undef, undef, undef, undef, undef, undef, undef], defers := [] } ∧ w' = (w.alloc (.cells #[.int .u64 (x ^^^ 2 ^ Ham.syn x 64 : Nat)] 22)).drew) ?_ ?_
  · gi_region_with (first | (refine ⟨trivial, ?_⟩; gi_at_call 27; refine (callsIn_wide.2 (syn_w x hx _ (HT.out _ (((Below.refl _ _).alloc (Nat.le_refl _) _).drew)))).mono ?_; rintro e w' ⟨rfl, rfl⟩) | (refine ⟨trivial, ?_⟩; gi_at_call 13; refine (callsIn_wide.2 (flip_on x hx _ _ hsl)).mono ?_; rintro e w' ⟨rfl, rfl⟩))
    all_goals exact ⟨rfl, rfl, rfl⟩
  rintro e a w' ⟨rfl, rfl, rfl⟩
  have hy : x ^^^ 2 ^ Ham.syn x 64 < 18446744073709551616 := x64 x _ hx hsl
  generalize x ^^^ 2 ^ Ham.syn x 64 = y at *
  gi_wp2
  have hB0 : Below w.heap.size w (((w.alloc (.cells #[.int .u64 y] 22)).alloc (.cells #[.int .u64 0] 22)).drew) := (((Below.refl _ w).alloc (Nat.le_refl _) _).alloc (by simp) _).drew
  refine wpIn_rangeFunc_ownF rfl (by decide) (gf := 31) (lb := #[]) rfl trivial (enters_of Tryd.func31 (by kernel_rfl) rfl)
    (seqStopsA_iff.1 (places_stops _)) walksK_t walksK_b (Below.refl _ _) (fun _ => rfl)
    (fun pre W => (W.cell? ⟨w.heap.size, 0, none⟩ = some (.int .u64 y) ∧ W.cell? ⟨w.heap.size + 1, 0, none⟩ = some (.int .u64 (accD y pre : Nat)) ∧ W.frozen? ⟨w.heap.size + 1, 0, none⟩ = false) ∧ Below w.heap.size w W)
    (fun _ _ _ => False)
    (OwnFrom.and (Own.from (fun s A B row hs hg hr => ⟨cell_kept hs.1 hg hr, cell_kept hs.2.1 hg hr, (frozen_kept hs.2.1 hg hr).trans hs.2.2⟩) _) (ownFrom_below (Nat.le_refl _) (by simp; omega)))
    (fun _ _ _ _ _ hs _ _ => hs)
    ⟨⟨by simp [go_sem], by simp [go_sem, accD], by simp [go_sem]⟩, hB0⟩
    (fun i => { tmps := #[.int .u64 x, .pointer (some ⟨w.heap.size, 0, none⟩), .int .u64 0, .int .i64 0, .int .i64 0, .int .i64 1, .pointer (some ⟨w.heap.size + 1, 0, none⟩), .int .i64 (i.1 : Nat), .int .i64 (Ham.place i.1 : Nat),
      .int .u64 x, .int .i64 1, .int .i64 1, .bool false, .int .i64 1, .bool true, .int .u64 x, .int .u64 x, .int .i64 (Ham.syn x 64 : Nat), .int .u64 y, .int .i64 (i.1 : Nat), .int .i64 (Ham.place i.1 : Nat), undef, undef, undef, undef, undef, undef, undef, undef, undef, undef], defers := [] }) ?assign ?body ?done ?stop
  case assign =>
    intro l i W K hK
    gi_wp2
    exact hK
  case body =>
    rintro l pre i W ⟨⟨hc0, hc1, hf1⟩, hB⟩ _
    have hpl := (Ham.place_lt i.1 i.2).1
    have hil := i.2
    have HA := Lib.hid (accD_snoc y pre i)
    have hal := accD_lt y pre
    have HO := Lib.hid (or_shl (accD y pre) y (Ham.place i.1) i.1 hal hy (by omega))
    gi_wp2
    refine wpIn_mono (Q := fun e a w' => e = Exit.normal ∧ w' = (W.setCell ⟨w.heap.size + 1, 0, none⟩ (.int .u64 (accD y (pre ++ [i]) : Nat))).drew) ?_ ?_
    · gi_region
      all_goals exact ⟨rfl, by rw [HA.out, ← HO.out]⟩
    · rintro e a w' ⟨rfl, rfl⟩
      exact ⟨(KeepsOthers.setCell _ _ _).trans (KeepsOthers.drew _), ((KeepsOthers.setCell _ _ _).trans (KeepsOthers.drew _)).walks,
        ⟨by simp [go_sem, hc0], by simp [go_sem, hc1], by simp [go_sem, hf1]⟩, (hB.setCell (p := ⟨w.heap.size + 1, 0, none⟩) (by simp) _).drew⟩
  case done =>
    rintro D ys W hD rfl ⟨⟨hc0, hc1, hf1⟩, hB⟩ hK
    rw [accD_upTo y 57 (Nat.le_refl _)] at hc1
    gi_wp2
    refine ⟨by simp, .inl ⟨_, _, rfl, run_takeDeferred hK, ?_⟩⟩
    refine ⟨_, results_tmp3 rfl _ _ _, by rw [HV.out]; rfl, hB.trans (belowK_b (w := w) (Nat.le_refl _) _ D _ _ (by simp at hD; omega) hK rfl rfl)⟩
  case stop =>
    rintro D c pre W _ _ h _
    exact h.elim
set_option maxRecDepth 100000 in
set_option maxHeartbeats 1000000 in
theorem dec_zero (x : Nat) (hx : x < 18446744073709551616) (hc : Ham.chk x = 0) (w : World) (hT : TabAt Lib.deBruijn64tab w) :
    Calls Tryd.prog 28 #[.int .u64 x] w fun e w' => e = .returned (decT x) ∧ Below w.heap.size w w' := by
  have HV := Lib.hid (decT0 hc)
  have HC := Lib.hid hc
  have HT := Lib.hid (fun w' h => hT.below (w' := w') hT.pos h)
  clear hT hc
  have hsl := Ham.syn_lt x 64 (by decide)
  refine (callsIn_wide (n := 9)).1 ?_
  refine callsIn_of_wp_marks Tryd.func28 rfl trivial ?_ rfl
  simp only [Tryd.ntmps28, List.size_toArray, List.length_cons, List.length_nil, Nat.reduceAdd, Nat.reduceSub, Array.replicate_succ, Array.replicate_zero, List.push_toArray, List.append_toArray, List.nil_append, List.cons_append]
  gi_wp2_with (refine ⟨trivial, ?_⟩; gi_at_call 17; refine (callsIn_wide.2 (chk_w x hx _ (HT.out _ ((Below.refl _ _).alloc (Nat.le_refl _) _)))).mono ?_; rintro e w' ⟨rfl, rfl⟩; rw [HC.out])
  have hy : x < 18446744073709551616 := hx
  have hB0 : Below w.heap.size w ((w.alloc (.cells #[.int .u64 x] 22)).alloc (.cells #[.int .u64 0] 22)) := ((Below.refl _ w).alloc (Nat.le_refl _) _).alloc (by simp) _
  refine wpIn_rangeFunc_ownF rfl (by decide) (gf := 31) (lb := #[]) rfl trivial (enters_of Tryd.func31 (by kernel_rfl) rfl)
    (seqStopsA_iff.1 (places_stops _)) walksK_t walksK_b (Below.refl _ _) (fun _ => rfl)
    (fun pre W => (W.cell? ⟨w.heap.size, 0, none⟩ = some (.int .u64 x) ∧ W.cell? ⟨w.heap.size + 1, 0, none⟩ = some (.int .u64 (accD x pre : Nat)) ∧ W.frozen? ⟨w.heap.size + 1, 0, none⟩ = false) ∧ Below w.heap.size w W)
    (fun _ _ _ => False)
    (OwnFrom.and (Own.from (fun s A B row hs hg hr => ⟨cell_kept hs.1 hg hr, cell_kept hs.2.1 hg hr, (frozen_kept hs.2.1 hg hr).trans hs.2.2⟩) _) (ownFrom_below (Nat.le_refl _) (by simp; omega)))
    (fun _ _ _ _ _ hs _ _ => hs)
    ⟨⟨by simp [go_sem], by simp [go_sem, accD], by simp [go_sem]⟩, hB0⟩
    (fun i => { tmps := #[.int .u64 x, .pointer (some ⟨w.heap.size, 0, none⟩), .int .u64 0, .int .i64 0, .int .i64 0, .int .i64 0, .pointer (some ⟨w.heap.size + 1, 0, none⟩), .int .i64 (i.1 : Nat), .int .i64 (Ham.place i.1 : Nat),
      .int .u64 x, .int .i64 0, .int .i64 0, .bool false, .int .i64 0, .bool false, undef, undef, undef, undef, .int .i64 (i.1 : Nat), .int .i64 (Ham.place i.1 : Nat), undef, undef, undef, undef, undef, undef, undef, undef, undef, undef], defers := [] }) ?assign ?body ?done ?stop
  case assign =>
    intro l i W K hK
    gi_wp2
    exact hK
  case body =>
    rintro l pre i W ⟨⟨hc0, hc1, hf1⟩, hB⟩ _
    have hpl := (Ham.place_lt i.1 i.2).1
    have hil := i.2
    have HA := Lib.hid (accD_snoc x pre i)
    have hal := accD_lt x pre
    have HO := Lib.hid (or_shl (accD x pre) x (Ham.place i.1) i.1 hal hy (by omega))
    gi_wp2
    refine wpIn_mono (Q := fun e a w' => e = Exit.normal ∧ w' = (W.setCell ⟨w.heap.size + 1, 0, none⟩ (.int .u64 (accD x (pre ++ [i]) : Nat))).drew) ?_ ?_
    · gi_region
      all_goals exact ⟨rfl, by rw [HA.out, ← HO.out]⟩
    · rintro e a w' ⟨rfl, rfl⟩
      exact ⟨(KeepsOthers.setCell _ _ _).trans (KeepsOthers.drew _), ((KeepsOthers.setCell _ _ _).trans (KeepsOthers.drew _)).walks,
        ⟨by simp [go_sem, hc0], by simp [go_sem, hc1], by simp [go_sem, hf1]⟩, (hB.setCell (p := ⟨w.heap.size + 1, 0, none⟩) (by simp) _).drew⟩
  case done =>
    rintro D ys W hD rfl ⟨⟨hc0, hc1, hf1⟩, hB⟩ hK
    rw [accD_upTo x 57 (Nat.le_refl _)] at hc1
    gi_wp2
    refine ⟨by simp, .inl ⟨_, _, rfl, run_takeDeferred hK, ?_⟩⟩
    refine ⟨_, results_tmp3 rfl _ _ _, by rw [HV.out]; rfl, hB.trans (belowK_b (w := w) (Nat.le_refl _) _ D _ _ (by simp at hD; omega) hK rfl rfl)⟩
  case stop =>
    rintro D c pre W _ _ h _
    exact h.elim
theorem dec_w (x : Nat) (hx : x < 18446744073709551616) (w : World) (hT : TabAt Lib.deBruijn64tab w) :
    Calls Tryd.prog 28 #[.int .u64 x] w fun e w' => e = .returned (decT x) ∧ Below w.heap.size w w' := by
  have hc := Ham.chk_le x
  obtain h | h | h : Ham.chk x = 0 ∨ Ham.chk x = 1 ∨ Ham.chk x = 2 := by omega
  · exact dec_zero x hx h w hT
  · exact dec_one x hx h w hT
  · exact dec_bad x hx h w hT
