/- Expressions and processes: how they lie in memory; bytes that describe them. -/
import Derived.Test.YtapjobndmmkanaaQr
import Derived.Test.YtapjobndmmkanaaOk
import Derived.Test.YtapjobndmmkanaaOe
set_option linter.unusedVariables false
set_option linter.unusedSimpArgs false
set_option maxRecDepth 100000
set_option maxHeartbeats 4000000
namespace Go.Proofs.Ytapjobndmmkanaa
open Go Go.RowKit
theorem jgc : (((((type_of% @zgc) ∧ ((type_of% @zgd) ∧ (type_of% @zzs))) ∧ ((type_of% @zew) ∧ ((type_of% @zex) ∧ (type_of% @zzq)))) ∧ (((type_of% @jjk) ∧ ((type_of% @jjl) ∧ (type_of% @jjm))) ∧ ((type_of% @jir) ∧ ((type_of% @jnb) ∧ (type_of% @jnc))))) ∧ ((((type_of% @jnd) ∧ ((type_of% @zqh) ∧ (type_of% @zdj))) ∧ ((type_of% @zhv) ∧ ((type_of% @zhu) ∧ (type_of% @zqg)))) ∧ (((type_of% @zpn) ∧ ((type_of% @zgx) ∧ (type_of% @zpm))) ∧ (((type_of% @zhw) ∧ (type_of% @zdr)) ∧ ((type_of% @zen) ∧ (type_of% @zi8)))))) := ⟨⟨⟨⟨@zgc, ⟨@zgd, @zzs⟩⟩, ⟨@zew, ⟨@zex, @zzq⟩⟩⟩, ⟨⟨@jjk, ⟨@jjl, @jjm⟩⟩, ⟨@jir, ⟨@jnb, @jnc⟩⟩⟩⟩, ⟨⟨⟨@jnd, ⟨@zqh, @zdj⟩⟩, ⟨@zhv, ⟨@zhu, @zqg⟩⟩⟩, ⟨⟨@zpn, ⟨@zgx, @zpm⟩⟩, ⟨⟨@zhw, @zdr⟩, ⟨@zen, @zi8⟩⟩⟩⟩⟩
def nS : D := .val (.string ⟨#[]⟩)
def sD (s : ByteArray) : D := .val (.string s)
def exR (o k w : Int) (cs : List D) (n : Nat) : List D := [iD o, nS, iD k, nS, iD w, nS, .fs cs n]
def exC : Ex → List D
 | .con v w => exR 1 v w [] 0
 | .reg i => exR 16 i 0 [] 0
 | .dat i => exR 18 i 0 [] 0
 | .not a => exR 2 0 0 (exC a) 1
 | .two o a b => exR o 0 0 (exC a ++ exC b) 2
 | .add a b => exR 6 0 0 (exC a ++ exC b) 2
 | .sub a b => exR 7 0 0 (exC a ++ exC b) 2
 | .eq a b => exR 8 0 0 (exC a ++ exC b) 2
 | .lt a b => exR 9 0 0 (exC a ++ exC b) 2
 | .mux a b c => exR 10 0 0 (exC a ++ (exC b ++ exC c)) 3
 | .cat a b => exR 11 0 0 (exC a ++ exC b) 2
 | .slc k w a => exR 12 k w (exC a) 1
 | .ext w a => exR 13 0 w (exC a) 1
 | .rd k a => exR 17 k 0 (exC a) 1
theorem zv4 (e : Ex) : (exC e).length = 7 := by cases e <;> rfl
theorem jwc {l : List Ex} {k : Nat} (h : k < l.length) : zbv (l.flatMap exC) (k * 7) 7 = some (exC (nth l k)) := zf8 zv4 h
theorem zbt {l : List Ex} : (l.flatMap exC).length = l.length * 7 := zca zv4 l
def zbo (b : List Int) (at' : Nat) : List D := [bytesD b, iD at']
def byN (b : List Int) (i : Nat) : Int := if i < b.length then nth b i else 0
theorem zjr {b : List Int} (hb : zg6 b) (i : Nat) : 0 ≤ byN b i ∧ byN b i < 256 := by
 unfold byN
 split
 ·rename_i h; exact hb _ (zb3 h)
 ·exact ⟨by omega, by omega⟩
theorem jj1 {p q : Prop} (hq : q) (h : p = q := by
 conv => lhs; simp -dsimp -implicitDefEqProofs (disch := first | assumption | omega | (simp only [r_z] <;> omega) | decide) only [r_r, ↓reduceIte, Nat.reduceEqDiff, Nat.reduceAdd, D.fix, Int.reduceToNat, Nat.reduceMul, Nat.reduceBNe, Nat.reduceBEq, zbo, jgc]) : p := h.mpr hq
theorem jwd {p q r : Prop} (e : r) (hq : q) (h : r → p = q := by
 intro hY
 conv => lhs; simp -dsimp -implicitDefEqProofs (disch := first | assumption | omega | (simp only [r_z] <;> omega) | decide) only [r_r, ↓reduceIte, Nat.reduceEqDiff, Nat.reduceAdd, D.fix, Int.reduceToNat, Nat.reduceMul, Nat.reduceBNe, Nat.reduceBEq, zbo, jgc, hY]) : p := (h e).mpr hq
theorem ych {p q : Prop} (hq : q) (h : p = q := by
 conv => lhs; simp (disch := first | assumption | omega | (simp only [r_z] <;> omega) | decide) only [r_c, Nat.reduceAdd, D.fix, ↓reduceIte, Nat.reduceEqDiff, zbo]) : p := h.mpr hq
theorem zmi (b : List Int) (i : Nat) (hb : zg6 b) (hl : b.length ≤ maxLen) : zbg Try.prog 90 [.agg (zbo b i)] (.d (iD (byN b i))) := by
 unfold maxLen at hl
 refine za4 (fn := Try.f90) (by kernel_rfl) Try.func90 rfl (Nat.le_of_ble_eq_true rfl) fun c hc hp => ?_
 refine za9 (τ' := frL [(0, .d (.agg (zbo b i)))]) (by repeat (first | exact zas _ | refine zao ?_ (by first | rfl | (simp [r_f]; done) | simp [r_f, *]))) ?_
 refine szq hp (fun _ hZ => jj1 hZ) ?_
 refine zaa fun K2 hK2 => ?_
 refine zag hp zak hc rfl fun K3 hK3 => ?_
 by_cases h : i < b.length
 ·have q : decide ((i : Int) < b.length) = true := decide_eq_true (by omega)
  have e : byN b i = nth b i := if_pos h
  have hx := hb _ (zb3 h)
  refine jwd q ?_
  refine hK3 _ _ ?_
  refine szt ?_
  refine zag hp zak hc rfl fun K4 hK4 => ?_
  simp -dsimp -implicitDefEqProofs (disch := first | assumption | omega | (simp only [r_z] <;> omega) | decide) only [r_r, ↓reduceIte, Nat.reduceEqDiff, Nat.reduceAdd, D.fix, Int.reduceToNat, Nat.reduceMul, Nat.reduceBNe, Nat.reduceBEq, zbo, zbj, jgc]
  refine hK4 _ _ ?_
  refine zam ?_
  show closeA _ _ = _
  refine ych ?_
  rw [e]
 ·have q : decide ((i : Int) < b.length) = false := decide_eq_false (by omega)
  have e : byN b i = 0 := if_neg h
  refine jwd q ?_
  refine hK3 _ _ ?_
  refine szf ?_
  refine zaj (hK2 _ _ ?_)
  refine zag hp zak hc rfl fun K5 hK5 => ?_
  simp -dsimp -implicitDefEqProofs (disch := first | assumption | omega | (simp only [r_z] <;> omega) | decide) only [r_r, ↓reduceIte, Nat.reduceEqDiff, Nat.reduceAdd, D.fix, Int.reduceToNat, Nat.reduceMul, Nat.reduceBNe, Nat.reduceBEq, zbo]
  refine hK5 _ _ ?_
  refine zam ?_
  show closeA _ _ = _
  refine ych ?_
  rw [e]
theorem jj2 (b : List Int) (i n : Nat) (h1 : i ≤ 1000000000) (h2 : n ≤ 1000000000) : zbg Try.prog 91 [.agg (zbo b i), iD n] (.d (.agg (zbo b (i + n)))) := by
 refine za4 (fn := Try.f91) (by kernel_rfl) Try.func91 rfl (Nat.le_of_ble_eq_true rfl) fun c hc hp => ?_
 refine za9 (τ' := frL [(0, .d (.agg (zbo b i))), (1, .d (iD n))]) (by repeat (first | exact zas _ | refine zao ?_ (by first | rfl | (simp [r_f]; done) | simp [r_f, *]))) ?_
 refine szq hp (fun _ hZ => jj1 hZ) ?_
 refine szq hp (fun _ hZ => jj1 hZ) ?_
 refine szq hp (fun _ hZ => jj1 hZ) ?_
 refine zam ?_
 try dsimp only [zco, za8]
 refine zba rfl ?_
 simp -dsimp -implicitDefEqProofs (disch := first | assumption | omega | (simp only [r_z] <;> omega) | decide) only [r_r, ↓reduceIte, Nat.reduceEqDiff, Nat.reduceAdd, D.fix, Int.reduceToNat, Nat.reduceMul, Nat.reduceBNe, Nat.reduceBEq, zbo, zgc, zgd]
 show closeA _ _ = _
 refine ych ?_
 simp
theorem jgd {n : Nat} (h : n < 8) : ∃ s : ByteArray, s.size ≤ 3 ∧ zbg Try.prog 92 [iD n] (.d (sD s)) := by
 rcases (show n = 0 ∨ n = 1 ∨ n = 2 ∨ n = 3 ∨ n = 4 ∨ n = 5 ∨ n = 6 ∨ n = 7 by omega) with rfl | rfl | rfl | rfl | rfl | rfl | rfl | rfl
 ·exact ⟨⟨#[97]⟩, by decide, zcc (n := 60) mixed zak (by kernel_rfl)⟩
 ·exact ⟨⟨#[98]⟩, by decide, zcc (n := 60) mixed zak (by kernel_rfl)⟩
 ·exact ⟨⟨#[99,48]⟩, by decide, zcc (n := 60) mixed zak (by kernel_rfl)⟩
 ·exact ⟨⟨#[119]⟩, by decide, zcc (n := 60) mixed zak (by kernel_rfl)⟩
 ·exact ⟨⟨#[120,49,121]⟩, by decide, zcc (n := 60) mixed zak (by kernel_rfl)⟩
 ·exact ⟨⟨#[116,111,112]⟩, by decide, zcc (n := 60) mixed zak (by kernel_rfl)⟩
 ·exact ⟨⟨#[122,57]⟩, by decide, zcc (n := 60) mixed zak (by kernel_rfl)⟩
 ·exact ⟨⟨#[109]⟩, by decide, zcc (n := 60) mixed zak (by kernel_rfl)⟩
theorem jqa {w : Nat} (h : w ≤ 8) : IntKind.i64.wrap (1 * 2 ^ min w 64) = ((2 ^ w : Nat) : Int) := by
 rcases (show w = 0 ∨ w = 1 ∨ w = 2 ∨ w = 3 ∨ w = 4 ∨ w = 5 ∨ w = 6 ∨ w = 7 ∨ w = 8 by omega) with rfl | rfl | rfl | rfl | rfl | rfl | rfl | rfl | rfl <;> decide
theorem zrj {v w : Nat} (hv : v < 2 ^ 62) (h : w ≤ 8) : jtl .and .i64 v (((2 ^ w : Nat) : Int) - 1) = ((v % 2 ^ w : Nat) : Int) := by
 have hp := Nat.two_pow_pos w
 have hp2 : 2 ^ w ≤ 256 := Nat.pow_le_pow_right (n := 2) (by decide) h
 have e1 : (((2 ^ w : Nat) : Int) - 1) = ((2 ^ w - 1 : Nat) : Int) := by omega
 rw [e1]
 show IntKind.i64.wrap ((BitVec.ofInt 64 (v : Int) &&& BitVec.ofInt 64 ((2 ^ w - 1 : Nat) : Int)).toNat : Int) = _
 have e : (BitVec.ofInt 64 (v : Int) &&& BitVec.ofInt 64 ((2 ^ w - 1 : Nat) : Int)).toNat = v % 2 ^ w := by
  rw [BitVec.toNat_and]
  simp only [BitVec.ofInt_natCast, BitVec.toNat_ofNat]
  rw [Nat.mod_eq_of_lt (show v < 2 ^ 64 by omega), Nat.mod_eq_of_lt (show 2 ^ w - 1 < 2 ^ 64 by omega), Nat.and_two_pow_sub_one_eq_mod]
 have := Nat.mod_lt v hp
 rw [e, jjh (by omega) (by omega)]
theorem jwe {v w : Nat} : v % 2 ^ w < 2 ^ w := Nat.mod_lt _ (Nat.two_pow_pos w)
theorem jwf (v w : Nat) (hv : v < 1000) (hw : w ≤ 8) : zbg Try.prog 94 [iD v, iD w] (.d (.agg (exC (.con (v % 2 ^ w) w)))) := by
 have hu : IntKind.u64.wrap (w : Int) = w := jpv (by omega) (by omega)
 have hs := jqa hw
 have hm := zrj (v := v) (w := w) (by omega) hw
 have hp := Nat.two_pow_pos w
 have hp2 : 2 ^ w ≤ 256 := Nat.pow_le_pow_right (n := 2) (by decide) hw
 obtain ⟨M, hM⟩ : ∃ M : Nat, 2 ^ w = M := ⟨_, rfl⟩
 rw [hM] at hs hm hp hp2
 rw [hM]
 refine za4 (fn := Try.f94) (by kernel_rfl) Try.func94 rfl (Nat.le_of_ble_eq_true rfl) fun c hc hp => ?_
 refine za9 (τ' := frL [(0, .d (iD v)), (1, .d (iD w))]) (by repeat (first | exact zas _ | refine zao ?_ (by first | rfl | (simp [r_f]; done) | simp [r_f, *]))) ?_
 refine zag hp zak hc rfl fun K1 hK1 => ?_
 simp -dsimp -implicitDefEqProofs (disch := first | assumption | omega | (simp only [r_z] <;> omega) | decide) only [r_r, ↓reduceIte, Nat.reduceEqDiff, Nat.reduceAdd, D.fix, Int.reduceToNat, Nat.reduceMul, Nat.reduceBNe, Nat.reduceBEq, exC, exR, jgc]
 refine hK1 _ _ ?_
 refine zag hp zak hc rfl fun K2 hK2 => ?_
 simp -dsimp -implicitDefEqProofs (disch := first | assumption | omega | (simp only [r_z] <;> omega) | decide) only [r_r, ↓reduceIte, Nat.reduceEqDiff, Nat.reduceAdd, D.fix, Int.reduceToNat, Nat.reduceMul, Nat.reduceBNe, Nat.reduceBEq, exC, exR, hu, hs, hm, Int.toNat_natCast, jgc]
 refine hK2 _ _ ?_
 refine zam ?_
 try dsimp only [zco, za8]
 refine zba rfl ?_
 simp -dsimp -implicitDefEqProofs (disch := first | assumption | omega | (simp only [r_z] <;> omega) | decide) only [r_r, ↓reduceIte, Nat.reduceEqDiff, Nat.reduceAdd, D.fix, Int.reduceToNat, Nat.reduceMul, Nat.reduceBNe, Nat.reduceBEq, exC, exR, zdj, zdz]
 show closeA _ _ = _
 simp (disch := first | assumption | omega | (simp only [r_z] <;> omega) | decide) only [r_c, Nat.reduceAdd, D.fix, ↓reduceIte, Nat.reduceEqDiff, exC, exR]
 simp [nS, iD]
end Go.Proofs.Ytapjobndmmkanaa
