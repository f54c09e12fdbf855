/- Contracts: the program's encoder and decoder. -/
import Derived.Laws.EntriesVeiled
import Derived.Test.YtfpodjfdmfobkaaDoorWd
namespace Go.Proofs.YtfpodjfdmfobkaaDoor
open Go.RowKit Go.Shelf
open Go
attribute [local go_sem] Oper.semAt_some
def encT (d : Nat) : Value := if d < 144115188075855872 then .tuple #[.int .u64 (Ham.enc d : Nat), .int .i64 0] else .tuple #[.int .u64 0, .int .i64 1]
theorem encT0 {d : Nat} (h : d < 144115188075855872) : encT d = .tuple #[.int .u64 (Ham.enc d : Nat), .int .i64 0] := by unfold encT; rw [if_pos h]
theorem encT1 {d : Nat} (h : ¬ d < 144115188075855872) : encT d = .tuple #[.int .u64 0, .int .i64 1] := by unfold encT; rw [if_neg h]
set_option maxRecDepth 100000 in
theorem enc_no (d : Nat) (hd : ¬ d < 144115188075855872) (w : World) :
    Calls Tryd.prog 21 #[.int .u64 d] w fun e w' => e = .returned (encT d) ∧ Below w.heap.size w w' := by
  have HV := Lib.hid (encT1 hd)
  have h1 : decide ((144115188075855872 : Int) ≤ (d : Int)) = true := by simp; omega
  clear hd
  go_enter Tryd.func21, Tryd.ntmps21
  go_wp2
  go_ret2
  exact ⟨by rw [HV.out]; rfl, (Below.refl _ _).alloc (Nat.le_refl _) _⟩
theorem and_pow_test (s k : Nat) (hs : s < 64) (hk : k < 6) : (bits .and .i64 (s : Int) ((2 ^ k : Nat) : Int) != 0) = s.testBit k := by
  have hq : 2 ^ k < 64 := (Ham.pow_inj k hk).1.1
  rw [i64_and s (2 ^ k) (by omega) (by omega)]
  have h := bit_num s k
  have hb : s &&& 2 ^ k = (if s.testBit k then 2 ^ k else 0) := by
    apply Nat.eq_of_testBit_eq
    intro i
    rw [Nat.testBit_and, Nat.testBit_two_pow]
    by_cases hi : k = i
    · subst hi; cases hc : s.testBit k <;> simp
    · cases hc : s.testBit k <;> simp [hi]
  rw [hb]
  have h2 : 2 ^ k ≠ 0 := Nat.ne_of_gt (Nat.two_pow_pos k)
  cases s.testBit k
  · rfl
  · rw [if_pos rfl, bne_iff_ne]; omega
def accE (d : Nat) (pre : List (Fin 57)) : Nat := pre.foldl (fun a i => if d.testBit i.1 then a ||| 2 ^ Ham.place i.1 else a) 0
theorem accE_snoc (d : Nat) (pre : List (Fin 57)) (x : Fin 57) : accE d (pre ++ [x]) = if d.testBit x.1 then accE d pre ||| 2 ^ Ham.place x.1 else accE d pre := by simp [accE]
theorem accE_upTo (d : Nat) : ∀ k, k ≤ 57 → accE d (upTo k) = Ham.base d k
  | 0, _ => rfl
  | k + 1, h => by rw [upTo_succ (by omega), accE_snoc, Ham.base_step d k (by omega), accE_upTo d k (by omega)]
theorem accE_lt (d : Nat) (pre : List (Fin 57)) : accE d pre < 18446744073709551616 := by
  unfold accE
  suffices h : ∀ a, a < 2 ^ 64 → pre.foldl (fun a (i : Fin 57) => if d.testBit i.1 then a ||| 2 ^ Ham.place i.1 else a) a < 2 ^ 64 from h 0 (by decide)
  induction pre with
  | nil => intro a ha; exact ha
  | cons x l ih =>
    intro a ha
    rw [List.foldl_cons]
    apply ih
    split
    · exact Nat.or_lt_two_pow ha (Nat.pow_lt_pow_right (by decide) (Ham.place_lt x.1 x.2).1)
    · exact ha
theorem TabAt.below {tab : List Nat} {n : Nat} {w w' : World} (h : TabAt tab w) (hn : 0 < n) (hb : Below n w w') : TabAt tab w' := fun j hj => (hb.cell (p := ⟨0, j, none⟩) hn).trans (h j hj)
theorem TabAt.pos {w : World} (h : TabAt Lib.deBruijn64tab w) : 0 < w.heap.size := by
  have := h 0 (by decide)
  rcases Nat.eq_zero_or_pos w.heap.size with h0 | h0
  · have hx : w.heap[0]? = none := by simp [h0]
    simp [World.cell?, hx] at this
  · exact h0
set_option maxRecDepth 100000 in
set_option maxHeartbeats 1000000 in
theorem enc_yes (d : Nat) (hd : d < 144115188075855872) (w : World) (hT : TabAt Lib.deBruijn64tab w) :
    Calls Tryd.prog 21 #[.int .u64 d] w fun e w' => e = .returned (encT d) ∧ Below w.heap.size w w' := by
  have HV := Lib.hid (encT0 hd)
  have HT := Lib.hid hT
  have hpos := hT.pos
  clear hT
  have hx : d < 18446744073709551616 := by omega
  have h1 : decide ((144115188075855872 : Int) ≤ (d : Int)) = false := by simp; omega
  clear hd
  have hmf : ∀ (fn : Fn) (first cap : Array Value) (w : World), (Instr.makeFunc fn first cap).run Tryd.prog w = .ok (.func fn first cap) w := fun _ _ _ _ => rfl
  refine (callsIn_wide (n := 9)).1 ?_
  refine callsIn_of_wp_marks Tryd.func21 rfl trivial ?_ rfl
  simp only [Tryd.ntmps21, List.size_toArray, List.length_cons, List.length_nil, Nat.reduceAdd, Nat.reduceSub, Array.replicate_succ, Array.replicate_zero, List.push_toArray, List.append_toArray, List.nil_append, List.cons_append]
  gi_wp2
  have hB0 : Below w.heap.size w (((w.alloc (.cells #[.int .u64 d] 22)).alloc (.cells #[.int .u64 0] 22)).alloc (.cells #[.func (.func 30) #[] #[.pointer (some ⟨w.heap.size + 1, 0, none⟩)]] 49)) := (((Below.refl _ w).alloc (Nat.le_refl _) _).alloc (by simp) _).alloc (by simp; omega) _
  refine wpIn_rangeFunc_ownF rfl (by decide) (gf := 31) (lb := #[]) rfl trivial (enters_of Tryd.func31 (by kernel_rfl) rfl)
    (seqStopsA_iff.1 (places_stops _)) walksK_t walksK_b (Below.refl _ _) (fun _ => rfl)
    (fun pre W => (W.cell? ⟨w.heap.size, 0, none⟩ = some (.int .u64 d) ∧ W.cell? ⟨w.heap.size + 1, 0, none⟩ = some (.int .u64 (accE d pre : Nat)) ∧ W.frozen? ⟨w.heap.size + 1, 0, none⟩ = false ∧ W.cell? ⟨w.heap.size + 1 + 1, 0, none⟩ = some (.func (.func 30) #[] #[.pointer (some ⟨w.heap.size + 1, 0, none⟩)])) ∧ Below w.heap.size w W)
    (fun _ _ _ => False)
    (OwnFrom.and (Own.from (fun s A B row hs hg hr => ⟨cell_kept hs.1 hg hr, cell_kept hs.2.1 hg hr, (frozen_kept hs.2.1 hg hr).trans hs.2.2.1, cell_kept hs.2.2.2 hg hr⟩) _) (ownFrom_below (Nat.le_refl _) (by simp; omega)))
    (fun _ _ _ _ _ hs _ _ => hs)
    ⟨⟨by simp [go_sem], by simp [go_sem, accE], by simp [go_sem], by simp [go_sem]⟩, hB0⟩
    (fun x => { tmps := #[.int .u64 d, .pointer (some ⟨w.heap.size, 0, none⟩), .int .u64 0, .int .i64 0, .pointer (some ⟨w.heap.size + 1, 0, none⟩), .pointer (some ⟨w.heap.size + 1 + 1, 0, none⟩), .int .i64 (x.1 : Nat), .int .i64 (Ham.place x.1 : Nat), undef, undef,
      .int .u64 d, .bool false, .func (.func 30) #[] #[.pointer (some ⟨w.heap.size + 1, 0, none⟩)], .int .i64 (x.1 : Nat), .int .i64 (Ham.place x.1 : Nat), undef, undef, undef, undef, undef, undef, undef, undef, undef, undef, undef, undef, undef, undef, undef, undef, undef, undef, undef, undef, undef, undef, undef, undef, undef, undef, undef, undef], defers := [] }) ?assign ?body ?done ?stop
  case assign =>
    intro l x W K hK
    gi_wp2
    exact hK
  case body =>
    rintro l pre x W ⟨⟨hc0, hc1, hf1, hc2⟩, hB⟩ _
    have hpl := (Ham.place_lt x.1 x.2).1
    have hxl := x.2
    have ht := bitB d x.1 hx
    have HA := Lib.hid (accE_snoc d pre x)
    have hal := accE_lt d pre
    cases hb : d.testBit x.1
    · have HB := Lib.hid hb
      rw [hb] at ht
      clear hb
      gi_wp2
      exact ⟨KeepsOthers.refl _, (KeepsOthers.refl _).walks, ⟨hc0, by rw [HA.out, HB.out]; exact hc1, hf1, hc2⟩, hB⟩
    · have HB := Lib.hid hb
      rw [hb] at ht
      clear hb
      gi_wp2_with (refine ⟨trivial, ?_⟩; gi_at_call 30; refine (CallsIn.inRound l (callsIn_wide.2 (set_w _ _ hpl hal _ _ hc1 hf1))).mono ?_; rintro e w' ⟨rfl, rfl⟩)
      exact ⟨(KeepsOthers.setCell _ _ _).trans (KeepsOthers.drew _), ((KeepsOthers.setCell _ _ _).trans (KeepsOthers.drew _)).walks,
        ⟨by simp [go_sem, hc0], by rw [HA.out, HB.out]; simp [go_sem, hc1], by simp [go_sem, hf1], by simp [go_sem, hc2]⟩, (hB.setCell (p := ⟨w.heap.size + 1, 0, none⟩) (by simp) _).drew⟩
  case done =>
    rintro D ys W hD rfl ⟨⟨hc0, hc1, hf1, hc2⟩, hB⟩ hK
    rw [accE_upTo d 57 (Nat.le_refl _)] at hc1
    have HT1 := Lib.hid (HT.out.below hpos hB)
    have hbl := Ham.base_lt d 57 (by decide)
    have hsl := Ham.syn_lt (Ham.base d 57) 64 (by decide)
    obtain ⟨s, hs⟩ : ∃ s, Ham.syn (Ham.base d 57) 64 = s := ⟨_, rfl⟩
    rw [hs] at hsl
    have HS := Lib.hid hs
    clear hs
    gi_wp2_with (refine ⟨trivial, ?_⟩; gi_at_call 27; refine (callsIn_wide.2 (syn_w _ hbl _ HT1.out)).mono ?_; rintro e w' ⟨rfl, rfl⟩; rw [HS.out])
    gi_loopw [9] (fun q wr => ∃ k q0 : Nat, k ≤ 6 ∧ Hid (q0 = 2 ^ k) ∧ q = .int .i64 q0 ∧ wr.cell? ⟨w.heap.size + 1, 0, none⟩ = some (.int .u64 (Ham.body d k : Nat)) ∧ wr.frozen? ⟨w.heap.size + 1, 0, none⟩ = false ∧ wr.cell? ⟨w.heap.size + 1 + 1, 0, none⟩ = some (.func (.func 30) #[] #[.pointer (some ⟨w.heap.size + 1, 0, none⟩)]) ∧ wr.heap[D]? = some (.deferred (some [])) ∧ Below w.heap.size w wr)
      (fun q _ => 64 - (intOf q).toNat)
    case atStart => exact ⟨0, 1, by omega, Lib.hid rfl, rfl, by rw [show Ham.body d 0 = Ham.base d 57 from Nat.xor_zero _]; exact hc1, hf1, hc2, hK, hB⟩
    case round =>
      obtain ⟨k, q0, hk, HQ, rfl, gc1, gf1, gc2, gK, gB⟩ := hrel
      by_cases hlt : k < 6
      · have hq64 : q0 < 64 := by rw [HQ.out]; exact (Ham.pow_inj k hlt).1.1
        have hq1 : 1 ≤ q0 := by rw [HQ.out]; exact (Ham.pow_inj k hlt).1.2
        have hbk := Ham.body_lt d k (by omega)
        have H := Lib.hid (Ham.body_step d k hlt)
        have ht := and_pow_test s k hsl hlt
        rw [← HQ.out] at ht
        cases hb : s.testBit k
        · have HB := Lib.hid hb
          rw [hb] at ht
          clear hb
          gi_wp2
          go_roundw
          case rel => exact ⟨k + 1, q0 * 2, by omega, Lib.hid (by rw [HQ.out, Nat.pow_succ]), by go_num, by rw [H.out, HS.out, HB.out]; exact gc1, gf1, gc2, gK, gB⟩
          case measure => simp [intOf]; omega
        · have HB := Lib.hid hb
          rw [hb] at ht
          clear hb
          gi_wp2_with (refine ⟨trivial, ?_⟩; gi_at_call 30; refine (callsIn_wide.2 (set_w _ _ hq64 hbk _ _ gc1 gf1)).mono ?_; rintro e w' ⟨rfl, rfl⟩)
          go_roundw
          case rel => exact ⟨k + 1, q0 * 2, by omega, Lib.hid (by rw [HQ.out, Nat.pow_succ]), by go_num, by rw [H.out, HS.out, HB.out, ← HQ.out]; simp [go_sem, gc1], by simp [go_sem, gf1], by simp [go_sem, gc2], ((KeepsOthers.setCell _ _ _).trans (KeepsOthers.drew _)).same D _ gK rfl, (gB.setCell (p := ⟨w.heap.size + 1, 0, none⟩) (by simp) _).drew⟩
          case measure => simp [intOf]; omega
      · have : k = 6 := by omega
        subst this
        obtain rfl : q0 = 64 := HQ.out
        have hbl2 := Ham.body_lt d 6 (by decide)
        by_cases h1 : Ham.ones (Ham.body d 6) 64 % 2 = 1
        · have hc := Lib.hid (show Ham.enc d = Ham.body d 6 ||| 2 ^ 0 by unfold Ham.enc; rw [if_pos h1])
          have hm : (((Ham.ones (Ham.body d 6) 64 : Nat) : Int) % 2 == 1) = true := by rw [mod2]; simpa using h1
          clear h1
          gi_wp2_with (first | (refine ⟨trivial, ?_⟩; gi_at_call 26; refine (callsIn_wide.2 (pop_w _ hbl2 _)).mono ?_; rintro e w' ⟨rfl, rfl⟩) | (refine ⟨trivial, ?_⟩; gi_at_call 30; refine (callsIn_wide.2 (set_w 0 _ (by decide) hbl2 _ _ gc1 gf1)).mono ?_; rintro e w' ⟨rfl, rfl⟩))
          have gK' := ((KeepsOthers.setCell wr ⟨w.heap.size + 1, 0, none⟩ (.int .u64 (Ham.body d 6 ||| 2 ^ 0 : Nat))).trans (KeepsOthers.drew _)).same D _ gK rfl
          refine ⟨by simp, .inl ⟨_, _, rfl, run_takeDeferred gK', ?_⟩⟩
          exact ⟨_, results_tmp2 rfl _ _ _, by rw [HV.out, hc.out]; rfl, ((gB.setCell (p := ⟨w.heap.size + 1, 0, none⟩) (by simp) _).drew).trans (belowK_b (w := w) (Nat.le_refl _) _ D _ _ (by simp at hD; omega) gK' rfl rfl)⟩
        · have hc := Lib.hid (show Ham.enc d = Ham.body d 6 by unfold Ham.enc; rw [if_neg h1])
          have hm : (((Ham.ones (Ham.body d 6) 64 : Nat) : Int) % 2 == 1) = false := by rw [mod2]; simpa using h1
          clear h1
          gi_wp2_with (refine ⟨trivial, ?_⟩; gi_at_call 26; refine (callsIn_wide.2 (pop_w _ hbl2 _)).mono ?_; rintro e w' ⟨rfl, rfl⟩)
          refine ⟨by simp, .inl ⟨_, _, rfl, run_takeDeferred gK, ?_⟩⟩
          exact ⟨_, results_tmp2 rfl _ _ _, by rw [HV.out, hc.out]; rfl, gB.trans (belowK_b (w := w) (Nat.le_refl _) _ D _ _ (by simp at hD; omega) gK rfl rfl)⟩
  case stop =>
    rintro D c pre W _ _ h _
    exact h.elim
theorem enc_w (d : Nat) (w : World) (hT : TabAt Lib.deBruijn64tab w) :
    Calls Tryd.prog 21 #[.int .u64 d] w fun e w' => e = .returned (encT d) ∧ Below w.heap.size w w' := by
  by_cases h : d < 144115188075855872
  · exact enc_yes d h w hT
  · exact enc_no d h w
