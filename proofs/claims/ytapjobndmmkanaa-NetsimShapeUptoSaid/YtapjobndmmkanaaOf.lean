/- netsim: effects. -/
import Derived.Test.YtapjobndmmkanaaQr
import Derived.Test.YtapjobndmmkanaaOe
import Derived.Test.YtapjobndmmkanaaOm
import Derived.Test.YtapjobndmmkanaaMb
set_option linter.unusedVariables false
set_option linter.unusedSimpArgs false
set_option maxRecDepth 100000
set_option maxHeartbeats 4000000
namespace Go.Proofs.Ytapjobndmmkanaa
open Go Go.RowKit
theorem zuj : (((type_of% @ze5) ∧ ((type_of% @ze6) ∧ (type_of% @ze7))) ∧ ((type_of% @ze8) ∧ ((type_of% @jfx) ∧ (type_of% @jfy)))) := ⟨⟨@ze5, ⟨@ze6, @ze7⟩⟩, ⟨@ze8, ⟨@jfx, @jfy⟩⟩⟩
def jam (w : Wire) (kind i : Int) : Bool := decide (w.kind = kind) && decide (w.i = i)
def zdn (b : Int) : Int := IntKind.i64.wrap (1 * 2 ^ min b.toNat 64)
def zhn (out : List Wire) (v : List Bool) (kind i : Int) : Nat → Bool
 | 0 => false
 | k + 1 => zhn out v kind i k || (nth v k && jam (nth out k) kind i)
def zc3 (out : List Wire) (v : List Bool) (kind i : Int) : Nat → Int
 | 0 => 0
 | k + 1 => if (nth v k && jam (nth out k) kind i) = true then zpu .or .i64 (zc3 out v kind i k) (zdn (nth out k).bit) else zc3 out v kind i k
theorem zuk {out : List Wire} {v : List Bool} {kind i : Int} : ∀ {k : Nat}, zhn out v kind i k = false → zc3 out v kind i k = 0
 | 0, _ => rfl
 | k + 1, h => by
  simp only [zhn, Bool.or_eq_false_iff] at h
  rw [zc3, h.2, if_neg (by simp)]
  exact zuk h.1
theorem jfk {b : Int} (h0 : 0 ≤ b) (h1 : b ≤ 7) : ∃ n : Nat, zdn b = n ∧ n < 256 := by
 rcases (show b = 0 ∨ b = 1 ∨ b = 2 ∨ b = 3 ∨ b = 4 ∨ b = 5 ∨ b = 6 ∨ b = 7 by omega) with rfl | rfl | rfl | rfl | rfl | rfl | rfl | rfl
 ·exact ⟨1, by decide, by decide⟩
 ·exact ⟨2, by decide, by decide⟩
 ·exact ⟨4, by decide, by decide⟩
 ·exact ⟨8, by decide, by decide⟩
 ·exact ⟨16, by decide, by decide⟩
 ·exact ⟨32, by decide, by decide⟩
 ·exact ⟨64, by decide, by decide⟩
 ·exact ⟨128, by decide, by decide⟩
theorem jd9 {a b : Nat} (ha : a < 256) (hb : b < 256) : zpu .or .i64 a b = ((a ||| b : Nat) : Int) := by
 have h : a ||| b < 2 ^ 8 := Nat.or_lt_two_pow ha hb
 show IntKind.i64.wrap ((BitVec.ofInt 64 a ||| BitVec.ofInt 64 b).toNat : Int) = _
 have e : (BitVec.ofInt 64 (a : Int) ||| BitVec.ofInt 64 (b : Int)).toNat = a ||| b := by
  rw [BitVec.toNat_or]
  simp only [BitVec.ofInt_natCast, BitVec.toNat_ofNat]
  rw [Nat.mod_eq_of_lt (by omega), Nat.mod_eq_of_lt (by omega)]
 rw [e, zvl (by omega) (by omega)]
theorem zzo {out : List Wire} {v : List Bool} {kind i : Int} (hb : ∀ k, k < out.length → 0 ≤ (nth out k).bit ∧ (nth out k).bit ≤ 7) : ∀ {k : Nat}, k ≤ out.length → ∃ n : Nat, zc3 out v kind i k = n ∧ n < 256
 | 0, _ => ⟨0, rfl, by decide⟩
 | k + 1, h => by
  obtain ⟨a, ha, ha2⟩ := zzo hb (k := k) (kind := kind) (i := i) (v := v) (by omega)
  rw [zc3]
  split
  ·obtain ⟨b, hb1, hb2⟩ := jfk (hb k (by omega)).1 (hb k (by omega)).2
   rw [ha, hb1, jd9 ha2 hb2]
   exact ⟨_, rfl, Nat.or_lt_two_pow (n := 8) ha2 hb2⟩
  ·exact ⟨a, ha, ha2⟩
structure Fir where
 fires : Bool
 st : PSt
 pops : List Bool
 puts : List Head
 deriving Inhabited
def zbt (f : Fir) : List D := [oD f.fires, intsD f.st.regs, intssD f.st.mems, boolsD f.pops, zai f.puts]
def zmy (out : List Wire) (v : List Bool) (i : Nat) (l : List Int) : List Int :=
 if (zhn out v 8 i out.length && decide (zc3 out v 9 i out.length < l.length)) = true then l.set (zc3 out v 9 i out.length).toNat (zc3 out v 10 i out.length) else l
theorem zwi (out : List Wire) (v : List Bool) (i : Nat) (l : List Int) : (zmy out v i l).length = l.length := by unfold zmy; split <;> simp
def zzp (out : List Wire) (v : List Bool) (i : Nat) : Head := if zhn out v 6 i out.length then ⟨true, zc3 out v 7 i out.length⟩ else ⟨false, 0⟩
def zfw (out : List Wire) (v : List Bool) (n : Nat) : List Int := (List.range n).map fun (i : Nat) => zc3 out v 1 i out.length
def zfx (out : List Wire) (v : List Bool) (ms : List (List Int)) (n : Nat) : List (List Int) := (List.range n).map fun i => zmy out v i (nth ms i)
def zl7 (out : List Wire) (v : List Bool) (n : Nat) : List Bool := (List.range n).map fun (i : Nat) => zhn out v 5 i out.length
def zkk (out : List Wire) (v : List Bool) (n : Nat) : List Head := (List.range n).map fun i => zzp out v i
theorem zak (out : List Wire) (v : List Bool) (n : Nat) : (zfw out v n).length = n := by simp [zfw]
theorem zal (out : List Wire) (v : List Bool) (ms : List (List Int)) (n : Nat) : (zfx out v ms n).length = n := by simp [zfx]
theorem zam (out : List Wire) (v : List Bool) (n : Nat) : (zl7 out v n).length = n := by simp [zl7]
theorem zan (out : List Wire) (v : List Bool) (n : Nat) : (zkk out v n).length = n := by simp [zkk]
theorem zqj (out : List Wire) (v : List Bool) (n : Nat) : zfw out v (n + 1) = zfw out v n ++ [zc3 out v 1 n out.length] := by simp [zfw, List.range_succ]
theorem zqk (out : List Wire) (v : List Bool) (ms : List (List Int)) (n : Nat) : zfx out v ms (n + 1) = zfx out v ms n ++ [zmy out v n (nth ms n)] := by simp [zfx, List.range_succ]
theorem zql (out : List Wire) (v : List Bool) (n : Nat) : zl7 out v (n + 1) = zl7 out v n ++ [zhn out v 5 n out.length] := by simp [zl7, List.range_succ]
theorem zir (out : List Wire) (v : List Bool) (n : Nat) : zkk out v (n + 1) = zkk out v n ++ [zzp out v n] := by simp [zkk, List.range_succ]
def efF (out : List Wire) (s : PSt) (v : List Bool) (e0 e1 : Nat) : Fir := ⟨false, ⟨zfw out v s.regs.length, zfx out v s.mems s.mems.length⟩, zl7 out v e0, zkk out v e1⟩
abbrev tEb : TypeId := 131
abbrev tEi : TypeId := 132
structure EfP (out : List Wire) (v : List Bool) (k : Nat) (μs μw : Mp) : Prop where
 s : OkB Try.prog tEb μs
 w : OkB Try.prog tEi μw
 gs : ∀ kind i, I64 kind → I64 i → zhm (eV kind i) μs = if zhn out v kind i k then some (.bool true) else none
 gw : ∀ kind i, I64 kind → I64 i → zhm (eV kind i) μw = if zhn out v kind i k then some (.int .i64 (zc3 out v kind i k)) else none
theorem zpp {a b : Int} : zf6 (eV a b) = true := rfl
theorem EfP.nil (out : List Wire) (v : List Bool) : EfP out v 0 ([], 0) ([], 0) := ⟨OkB.nil _ _, OkB.nil _ _, fun _ _ _ _ => rfl, fun _ _ _ _ => rfl⟩
theorem EfP.same {out : List Wire} {v : List Bool} {k : Nat} {μs μw : Mp} (h : EfP out v k μs μw) (hv : nth v k = false) : EfP out v (k + 1) μs μw :=
 ⟨h.s, h.w, fun kind i h1 h2 => by rw [h.gs kind i h1 h2]; simp [zhn, hv], fun kind i h1 h2 => by rw [h.gw kind i h1 h2]; simp [zhn, zc3, hv]⟩
theorem hit_iff {w : Wire} {kind i : Int} : jam w kind i = true ↔ eV kind i = eV w.kind w.i := by
 unfold jam
 rw [Bool.and_eq_true, decide_eq_true_eq, decide_eq_true_eq]
 exact ⟨fun h => by rw [h.1, h.2], fun h => by obtain ⟨a, b⟩ := zzm h; exact ⟨a.symm, b.symm⟩⟩
theorem EfP.add {out : List Wire} {v : List Bool} {k : Nat} {μs μw : Mp} (h : EfP out v k μs μw) (hv : nth v k = true) (h1 : I64 (nth out k).kind) (h2 : I64 (nth out k).i) :
  EfP out v (k + 1) (zl9 (eV (nth out k).kind (nth out k).i) (.bool true) μs) (zl9 (eV (nth out k).kind (nth out k).i) (.int .i64 (zpu .or .i64 (zc3 out v (nth out k).kind (nth out k).i k) (zdn (nth out k).bit))) μw) := by
 classical
 refine ⟨h.s.put (zl5 h1 h2), h.w.put (zin h1 h2), fun kind i k1 k2 => ?_, fun kind i k1 k2 => ?_⟩
 ·rw [zjj zpp zpp, h.gs kind i k1 k2]
  rcases tf (jam (nth out k) kind i) with e | e
  ·rw [if_pos (hit_iff.1 e)]; simp [zhn, hv, e]
  ·rw [if_neg fun e2 => by rw [hit_iff.2 e2] at e; cases e]; simp [zhn, hv, e]
 ·rw [zjj zpp zpp, h.gw kind i k1 k2]
  rcases tf (jam (nth out k) kind i) with e | e
  ·have e2 := hit_iff.1 e
   rw [if_pos e2]
   obtain ⟨e3, e4⟩ := zzm e2
   subst e3 e4
   simp [zhn, zc3, hv, e]
  ·rw [if_neg fun e2 => by rw [hit_iff.2 e2] at e; cases e]; simp [zhn, zc3, hv, e]
theorem zwj {b : Bool} : ((if b = true then some (Value.bool true) else none).getD (.bool false)) = .bool b := by cases b <;> rfl
theorem zfb {out : List Wire} {v : List Bool} {kind i : Int} {k : Nat} : ((if zhn out v kind i k = true then some (Value.int .i64 (zc3 out v kind i k)) else none).getD (.int .i64 0)) = .int .i64 (zc3 out v kind i k) := by
 rcases tf (zhn out v kind i k) with e | e
 ·rw [e]; rfl
 ·rw [e, zuk e]; rfl
theorem jax : mtB Try.prog KT tEb = some (.bool false) := by kernel_rfl
theorem zwk : mtB Try.prog KT tEi = some (.int .i64 0) := by kernel_rfl
theorem zcs {a b : Int} : Value.agg #[.int .i64 a, .int .i64 b] = eV a b := rfl
def jfl (l : List Int) (x : AV) (S' : zag) : Prop := ∃ n, n = l.length ∧ x = .os 1 0 0 n ∧ S' = [.cells (avs (l.map iD))]
theorem zwl : ScS Try.prog [] 50 [.d (intsD [])] ([.free]) (jfl []) := by
 refine zq9 (fn := Try.f50) (by kernel_rfl) Try.func50 rfl (Nat.le_of_ble_eq_true rfl) fun c hc hp => ?_
 refine zsx ?_
 refine zah hp zar hc rfl fun K1 hK1 => ?_
 simp -dsimp -implicitDefEqProofs (disch := first | assumption | omega | (simp only [r_z] <;> omega) | decide) only [r_r, ↓reduceIte, Nat.reduceEqDiff, Nat.reduceAdd, D.fix, Int.reduceToNat, Nat.reduceMul, Nat.reduceBNe, Nat.reduceBEq, intsD, List.map_nil, List.length_nil]
 refine hK1 _ _ ?_
 refine zav fun K2 hK2 => ?_
 refine jd8 0 rfl fun a cap hm hn => ?_
 have hst : zd7 Try.prog 29 = true := by kernel_rfl
 refine zah hp zar hc rfl fun K3 hK3 => ?_
 rcases a with _ | a
 ·simp -dsimp -implicitDefEqProofs (disch := first | assumption | omega | (simp only [r_z] <;> omega) | decide) only [r_r, ↓reduceIte, Nat.reduceEqDiff, Nat.reduceAdd, D.fix, Int.reduceToNat, Nat.reduceMul, Nat.reduceBNe, Nat.reduceBEq, intsD, List.map_nil, List.length_nil, zpo hst, Option.isNone_none, Option.isNone_some, zuj]
  refine hK3 _ _ ?_
  refine zay rfl (fun ht => ?_) (fun ht => ?_)
  ·refine zah hp zar hc rfl fun K4 hK4 => ?_
   simp -dsimp -implicitDefEqProofs (disch := first | assumption | omega | (simp only [r_z] <;> omega) | decide) only [r_r, ↓reduceIte, Nat.reduceEqDiff, Nat.reduceAdd, D.fix, Int.reduceToNat, Nat.reduceMul, Nat.reduceBNe, Nat.reduceBEq, intsD, List.map_nil, List.length_nil]
   refine hK4 _ _ ?_
   refine zef hp (τ' := frL [(2, .os 1 0 0 0)]) (H' := [.cells []]) ?_ ?_
   ·refine Rt.trans (Rt.nil 2 1 rfl) ?_
    refine Rt.trans (Rt.gc (keep := [1]) (by decide) (by decide) (by simp [fzH, gcH])) ?_
    refine Rt.end (by repeat (first | exact zat _ | refine zap ?_ (by first | rfl | (simp [r_f]; done) | simp [r_f, *]))) ?_
    first | rfl | (simp only [r_g, Nat.reduceAdd, ↓reduceIte, Nat.reduceEqDiff, intsD, List.map_nil, List.length_nil]; first | done | rfl)
   refine zbr ?_
   refine zfl (t := 2) rfl ?_
   show ∃ _, _
   exact ⟨_, rfl, rfl, rfl⟩
  ·cases ht
 ·simp -dsimp -implicitDefEqProofs (disch := first | assumption | omega | (simp only [r_z] <;> omega) | decide) only [r_r, ↓reduceIte, Nat.reduceEqDiff, Nat.reduceAdd, D.fix, Int.reduceToNat, Nat.reduceMul, Nat.reduceBNe, Nat.reduceBEq, intsD, List.map_nil, List.length_nil, zpo hst, Option.isNone_none, Option.isNone_some, zuj]
  refine hK3 _ _ ?_
  refine zay rfl (fun ht => ?_) (fun ht => ?_)
  ·cases ht
  ·refine za4 (hK2 _ _ ?_)
   refine zef hp (τ' := frL [(0, .d (.fs [] 0))]) (H' := [.free]) ?_ ?_
   ·refine Rt.trans (Rt.put 0 (Imp.f0 hm hn)) ?_
    refine Rt.end (by repeat (first | exact zat _ | refine zap ?_ (by first | rfl | (simp [r_f]; done) | simp [r_f, *]))) ?_
    first | rfl | (simp only [r_g, Nat.reduceAdd, ↓reduceIte, Nat.reduceEqDiff, intsD, List.map_nil, List.length_nil]; first | done | rfl)
   refine zah hp zar hc rfl fun K5 hK5 => ?_
   simp -dsimp -implicitDefEqProofs (disch := first | assumption | omega | (simp only [r_z] <;> omega) | decide) only [r_r, ↓reduceIte, Nat.reduceEqDiff, Nat.reduceAdd, D.fix, Int.reduceToNat, Nat.reduceMul, Nat.reduceBNe, Nat.reduceBEq, intsD, List.map_nil, List.length_nil, zuj]
   refine hK5 _ _ ?_
   refine zef hp (τ' := frL [(2, .os 1 0 0 0)]) (H' := [.cells []]) ?_ ?_
   ·refine Rt.trans (Rt.gc (keep := [2]) (by decide) (by decide) (by simp [fzH, gcH])) ?_
    refine Rt.end (by repeat (first | exact zat _ | refine zap ?_ (by first | rfl | (simp [r_f]; done) | simp [r_f, *]))) ?_
    first | rfl | (simp only [r_g, Nat.reduceAdd, ↓reduceIte, Nat.reduceEqDiff, intsD, List.map_nil, List.length_nil]; first | done | rfl)
   refine zbr ?_
   refine zfl (t := 2) rfl ?_
   show ∃ _, _
   exact ⟨_, rfl, rfl, rfl⟩
theorem zwm (l : List Int) (hl : l.length ≤ 1000000) (h0 : 0 < l.length) : ScS Try.prog [] 50 [.d (intsD l)] ([.free]) (jfl l) := by
 refine zq9 (fn := Try.f50) (by kernel_rfl) Try.func50 rfl (Nat.le_of_ble_eq_true rfl) fun c hc hp => ?_
 refine zsx ?_
 refine zah hp zar hc rfl fun K1 hK1 => ?_
 simp -dsimp -implicitDefEqProofs (disch := first | assumption | omega | (simp only [r_z] <;> omega) | decide) only [r_r, ↓reduceIte, Nat.reduceEqDiff, Nat.reduceAdd, D.fix, Int.reduceToNat, Nat.reduceMul, Nat.reduceBNe, Nat.reduceBEq, intsD]
 refine hK1 _ _ ?_
 refine zav fun K2 hK2 => ?_
 have hnil : zvd Try.prog .eql 29 (.d (.fs (l.map iD) l.length)) (.d (.val (.slice none 0 0))) = some (.d (.val (.bool false))) := zvm Try.underlying29 h0
 refine zah hp zar hc rfl fun K3 hK3 => ?_
 simp -dsimp -implicitDefEqProofs (disch := first | assumption | omega | (simp only [r_z] <;> omega) | decide) only [r_r, ↓reduceIte, Nat.reduceEqDiff, Nat.reduceAdd, D.fix, Int.reduceToNat, Nat.reduceMul, Nat.reduceBNe, Nat.reduceBEq, intsD, hnil, zuj]
 refine hK3 _ _ ?_
 refine zay rfl (fun ht => ?_) (fun ht => ?_)
 ·cases ht
 ·refine za4 (hK2 _ _ ?_)
  refine zah hp zar hc rfl fun K4 hK4 => ?_
  simp -dsimp -implicitDefEqProofs (disch := first | assumption | omega | (simp only [r_z] <;> omega) | decide) only [r_r, ↓reduceIte, Nat.reduceEqDiff, Nat.reduceAdd, D.fix, Int.reduceToNat, Nat.reduceMul, Nat.reduceBNe, Nat.reduceBEq, intsD, zuj]
  refine hK4 _ _ ?_
  refine zef hp (τ' := frL [(2, .os 1 0 0 l.length)]) (H' := [.cells (avs (l.map iD))]) ?_ ?_
  ·refine Rt.trans (Rt.gc (keep := [2]) (by decide) (by decide) (by simp [fzH, gcH])) ?_
   refine Rt.end (by repeat (first | exact zat _ | refine zap ?_ (by first | rfl | (simp [r_f]; done) | simp [r_f, *]))) ?_
   first | rfl | (simp only [r_g, Nat.reduceAdd, ↓reduceIte, Nat.reduceEqDiff, intsD]; first | done | rfl)
  refine zbr ?_
  refine zfl (t := 2) rfl ?_
  show ∃ _, _
  exact ⟨_, rfl, rfl, rfl⟩
theorem jan (l : List Int) (hl : l.length ≤ 1000000) : ScS Try.prog [] 50 [.d (intsD l)] [.free] (jfl l) := by
 rcases l with _ | ⟨g, l⟩
 ·exact zwl
 ·exact zwm _ hl (by simp)
end Go.Proofs.Ytapjobndmmkanaa
