/- Contracts: the program's encoder and decoder. -/
import Derived.RangeFuncNested
import Derived.RangeFuncBound
import Derived.RangeFuncCalls
import Derived.RangeFuncLeaves
import Derived.Shelf.Abstract
import Derived.Shelf.RegionOpen
import Derived.WalkKit
import Derived.OwnWalkIn
import Derived.TacticsInMore
import Derived.LoopNIn
import Derived.LoopIn
import Derived.Test.YtfpodjfdmfobkaaDoorWc
namespace Go.Proofs.YtfpodjfdmfobkaaDoor
open Go.RowKit Go.Shelf
open Go
attribute [local go_sem] Oper.semAt_some

theorem set_w (p v : Nat) (hp : p < 64) (hv : v < 18446744073709551616) (a : Addr) (w : World) (hc : w.cell? a = some (.int .u64 v)) (hf : w.frozen? a = false) :
    Calls Tryd.prog 30 #[.int .i64 p, .pointer (some a)] w fun e w' => e = .returned (.tuple #[]) ∧ w' = (w.setCell a (.int .u64 (v ||| 2 ^ p : Nat))).drew := by
  have HO := Lib.hid (or_pow v p hv hp)
  go_enter Tryd.func30, Tryd.ntmps30
  go_region
  go_end0
  exact ⟨rfl, by rw [HO.out]⟩
def upTo : Nat → List (Fin 57)
  | 0 => []
  | k + 1 => if h : k < 57 then upTo k ++ [⟨k, h⟩] else upTo k
theorem upTo_succ {k : Nat} (h : k < 57) : upTo (k + 1) = upTo k ++ [⟨k, h⟩] := by rw [upTo, dif_pos h]
theorem upTo_len (k : Nat) (h : k ≤ 57) : (upTo k).length = k := by
  induction k with
  | zero => rfl
  | succ k ih => rw [upTo_succ (by omega)]; simp [ih (by omega)]
abbrev encs (i : Fin 57) : Array Value := #[.int .i64 (i.1 : Nat), .int .i64 (Ham.place i.1 : Nat)]
theorem pow_test : ∀ p, p < 64 → 3 ≤ p → ((p &&& (p - 1)) = 0 ↔ Ham.isPow p = true) := by decide +kernel
theorem cnt_step (p : Nat) (h : 1 ≤ p) : Ham.cnt p = Ham.cnt (p - 1) + (if Ham.isPow p then 0 else 1) := by
  obtain ⟨q, rfl⟩ : ∃ q, p = q + 1 := ⟨p - 1, by omega⟩
  rfl
theorem cnt_mono : ∀ p, p < 64 → Ham.cnt p ≤ 57 := by decide +kernel
set_option maxHeartbeats 1000000 in
theorem places_stops (w : World) : SeqStopsA Fence.wide 8 Tryd.prog 31 #[] encs (fun xs => xs = upTo 57) (fun _ => True) 57 w := fun l J Jx W _ _ _ hY h0 => by
  refine callsIn_of_wp Tryd.func31 rfl trivial ?_ rfl
  simp only [Tryd.ntmps31, List.size_toArray, List.length_cons, List.length_nil, Nat.reduceAdd, Nat.reduceSub, Array.replicate_succ, Array.replicate_zero, List.push_toArray, List.append_toArray, List.nil_append, List.cons_append]
  gi_wp2
  gi_loopw [2, 3] (fun i q wr => ∃ p : Nat, 3 ≤ p ∧ p ≤ 64 ∧ q = .int .i64 p ∧ i = .int .i64 (Ham.cnt (p - 1) : Nat) ∧ J (upTo (Ham.cnt (p - 1))) wr)
    (fun i q wr => 64 - (intOf q).toNat)
  case atStart =>
    exact ⟨3, by omega, by omega, rfl, rfl, h0⟩
  case round =>
    obtain ⟨p, hp3, hp, rfl, rfl, hJ⟩ := hrel
    by_cases hlt : p < 64
    · have ht := pow_test p hlt hp3
      have hs := cnt_step p (by omega)
      have hA := i64_and p (p - 1) (by omega) (by omega)
      have e1 : ((p - 1 : Nat) : Int) = (p : Int) - 1 := by omega
      rw [e1] at hA
      have hm := cnt_mono p hlt
      cases hb : Ham.isPow p
      · have hne : (bits .and .i64 (p : Int) ((p : Int) - 1) == 0) = false := by
          rw [hA, beq_eq_false_iff_ne]; intro h; rw [hb] at ht; have := ht.1 (by omega); simp at this
        rw [hb] at hs
        simp only [Bool.false_eq_true, if_false] at hs
        have hk : Ham.cnt (p - 1) < 57 := by omega
        have hpl : Ham.place (Ham.cnt (p - 1)) = p := Ham.cnt_place _ hk p hlt hs (.inr (Nat.le_refl _))
        obtain ⟨fn, tmps, assign, body, hy, hR⟩ := hY (upTo (Ham.cnt (p - 1))) ⟨Ham.cnt (p - 1), hk⟩ wr hJ (by rw [upTo_len _ (by omega)]; exact hk)
        dsimp only [encs] at hy
        rw [hpl] at hy
        clear hpl hA ht hb
        have HS := Lib.hid hs
        clear hs
        have HJ := Lib.hid (upTo_succ hk)
        gi_wp2
        refine hR.mono ?_
        rintro e W3 (⟨rfl, hJ3, hk3⟩ | ⟨rfl, hJx3⟩)
        · gi_wp2
          go_roundw
          case rel => exact ⟨p + 1, by omega, by omega, by go_num, by rw [Nat.add_sub_cancel, HS.out]; go_num, by rw [Nat.add_sub_cancel, HS.out, HJ.out]; exact hJ3⟩
          case measure => simp [intOf]; omega
        · gi_wp2
          refine bodyPost_ret (results_none rfl _ _ _) rfl ?_
          exact ⟨⟨_, rfl⟩, .inr ⟨_, trivial, hJx3⟩⟩
      · have hne : (bits .and .i64 (p : Int) ((p : Int) - 1) == 0) = true := by
          rw [hA, beq_iff_eq]; have := ht.2 hb; omega
        rw [hb] at hs
        simp only [if_true, Nat.add_zero] at hs
        clear hA ht hb
        have HS := Lib.hid hs
        clear hs
        gi_wp2
        go_roundw
        case rel => exact ⟨p + 1, by omega, by omega, by go_num, by rw [Nat.add_sub_cancel, HS.out], by rw [Nat.add_sub_cancel, HS.out]; exact hJ⟩
        case measure => simp [intOf]; omega
    · have : p = 64 := by omega
      subst this
      gi_wp2
      go_end0
      exact ⟨⟨_, rfl⟩, .inl ⟨_, by rw [show Ham.cnt (64 - 1) = 57 from Ham.cnt63], hJ⟩⟩
