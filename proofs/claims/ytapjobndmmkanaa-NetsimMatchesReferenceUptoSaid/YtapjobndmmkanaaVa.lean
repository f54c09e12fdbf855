/- Expressions and processes: how they lie in memory; bytes that describe them. -/
import Derived.Test.YtapjobndmmkanaaQr
import Derived.Test.YtapjobndmmkanaaOb
import Derived.Test.YtapjobndmmkanaaOf
set_option linter.unusedVariables false
set_option linter.unusedSimpArgs false
set_option maxRecDepth 100000
set_option maxHeartbeats 4000000
namespace Go.Proofs.Ytapjobndmmkanaa
open Go Go.RowKit
theorem jgu : (((((type_of% @zgb) ∧ ((type_of% @zgc) ∧ (type_of% @zzn))) ∧ ((type_of% @zev) ∧ ((type_of% @zew) ∧ (type_of% @zzl)))) ∧ (((type_of% @zpl) ∧ ((type_of% @zpm) ∧ (type_of% @zpn))) ∧ ((type_of% @zuk) ∧ ((type_of% @jq4) ∧ (type_of% @jq5))))) ∧ ((((type_of% @jya) ∧ ((type_of% @zq3) ∧ (type_of% @zd6))) ∧ ((type_of% @zq2) ∧ ((type_of% @zl9) ∧ (type_of% @zho)))) ∧ (((type_of% @jbh) ∧ ((type_of% @zlq) ∧ (type_of% @jbg))) ∧ (((type_of% @zma) ∧ (type_of% @zga)) ∧ ((type_of% @ziw) ∧ (type_of% @zni)))))) := ⟨⟨⟨⟨@zgb, ⟨@zgc, @zzn⟩⟩, ⟨@zev, ⟨@zew, @zzl⟩⟩⟩, ⟨⟨@zpl, ⟨@zpm, @zpn⟩⟩, ⟨@zuk, ⟨@jq4, @jq5⟩⟩⟩⟩, ⟨⟨⟨@jya, ⟨@zq3, @zd6⟩⟩, ⟨@zq2, ⟨@zl9, @zho⟩⟩⟩, ⟨⟨@jbh, ⟨@zlq, @jbg⟩⟩, ⟨⟨@zma, @zga⟩, ⟨@ziw, @zni⟩⟩⟩⟩⟩
def nS : D := .val (.string ⟨#[]⟩)
def sD (s : ByteArray) : D := .val (.string s)
def exR (o k w : Int) (cs : List D) (n : Nat) : List D := [iD o, nS, iD k, nS, iD w, nS, .fs cs n]
def exC : Ex → List D
 | .con v w => exR 1 v w [] 0
 | .reg i => exR 16 i 0 [] 0
 | .dat i => exR 18 i 0 [] 0
 | .not a => exR 2 0 0 (exC a) 1
 | .two o a b => exR o 0 0 (exC a ++ exC b) 2
 | .add a b => exR 6 0 0 (exC a ++ exC b) 2
 | .sub a b => exR 7 0 0 (exC a ++ exC b) 2
 | .eq a b => exR 8 0 0 (exC a ++ exC b) 2
 | .lt a b => exR 9 0 0 (exC a ++ exC b) 2
 | .mux a b c => exR 10 0 0 (exC a ++ (exC b ++ exC c)) 3
 | .cat a b => exR 11 0 0 (exC a ++ exC b) 2
 | .slc k w a => exR 12 k w (exC a) 1
 | .ext w a => exR 13 0 w (exC a) 1
 | .rd k a => exR 17 k 0 (exC a) 1
theorem jcf (e : Ex) : (exC e).length = 7 := by cases e <;> rfl
theorem zky {l : List Ex} {k : Nat} (h : k < l.length) : zb7 (l.flatMap exC) (k * 7) 7 = some (exC (nth l k)) := zf8 jcf h
theorem zb3 {l : List Ex} : (l.flatMap exC).length = l.length * 7 := zc1 jcf l
def zbu (b : List Int) (at' : Nat) : List D := [bytesD b, iD at']
def byN (b : List Int) (i : Nat) : Int := if i < b.length then nth b i else 0
theorem zjj {b : List Int} (hb : zfx b) (i : Nat) : 0 ≤ byN b i ∧ byN b i < 256 := by
 unfold byN
 split
 ·rename_i h; exact hb _ (zb0 h)
 ·exact ⟨by omega, by omega⟩
theorem jj6 {p q : Prop} (hq : q) (h : p = q := by
 conv => lhs; simp -dsimp -implicitDefEqProofs (disch := first | assumption | omega | (simp only [r_z] <;> omega) | decide) only [r_r, ↓reduceIte, Nat.reduceEqDiff, Nat.reduceAdd, D.fix, Int.reduceToNat, Nat.reduceMul, Nat.reduceBNe, Nat.reduceBEq, zbu, jgu]) : p := h.mpr hq
theorem jwg {p q r : Prop} (e : r) (hq : q) (h : r → p = q := by
 intro hY
 conv => lhs; simp -dsimp -implicitDefEqProofs (disch := first | assumption | omega | (simp only [r_z] <;> omega) | decide) only [r_r, ↓reduceIte, Nat.reduceEqDiff, Nat.reduceAdd, D.fix, Int.reduceToNat, Nat.reduceMul, Nat.reduceBNe, Nat.reduceBEq, zbu, jgu, hY]) : p := (h e).mpr hq
theorem jz4 {p q : Prop} (hq : q) (h : p = q := by
 conv => lhs; simp (disch := first | assumption | omega | (simp only [r_z] <;> omega) | decide) only [r_c, Nat.reduceAdd, D.fix, ↓reduceIte, Nat.reduceEqDiff, zbu]) : p := h.mpr hq
theorem zmi (b : List Int) (i : Nat) (hb : zfx b) (hl : b.length ≤ maxLen) : zaz Try.prog 90 [.agg (zbu b i)] (.d (iD (byN b i))) := by
 unfold maxLen at hl
 refine zaw (fn := Try.f90) (by kernel_rfl) Try.func90 rfl (Nat.le_of_ble_eq_true rfl) fun c hc hp => ?_
 refine za0 (τ' := frL [(0, .d (.agg (zbu b i)))]) (by repeat (first | exact zar _ | refine zam ?_ (by first | rfl | (simp [r_f]; done) | simp [r_f, *]))) ?_
 refine szq hp (fun _ hZ => jj6 hZ) ?_
 refine zaa fun K2 hK2 => ?_
 refine zag hp zai hc rfl fun K3 hK3 => ?_
 by_cases h : i < b.length
 ·have q : decide ((i : Int) < b.length) = true := decide_eq_true (by omega)
  have e : byN b i = nth b i := if_pos h
  have hx := hb _ (zb0 h)
  refine jwg q ?_
  refine hK3 _ _ ?_
  refine szt ?_
  refine zag hp zai hc rfl fun K4 hK4 => ?_
  simp -dsimp -implicitDefEqProofs (disch := first | assumption | omega | (simp only [r_z] <;> omega) | decide) only [r_r, ↓reduceIte, Nat.reduceEqDiff, Nat.reduceAdd, D.fix, Int.reduceToNat, Nat.reduceMul, Nat.reduceBNe, Nat.reduceBEq, zbu, zay, jgu]
  refine hK4 _ _ ?_
  refine zal ?_
  show closeA _ _ = _
  refine jz4 ?_
  rw [e]
 ·have q : decide ((i : Int) < b.length) = false := decide_eq_false (by omega)
  have e : byN b i = 0 := if_neg h
  refine jwg q ?_
  refine hK3 _ _ ?_
  refine szf ?_
  refine zaf (hK2 _ _ ?_)
  refine zag hp zai hc rfl fun K5 hK5 => ?_
  simp -dsimp -implicitDefEqProofs (disch := first | assumption | omega | (simp only [r_z] <;> omega) | decide) only [r_r, ↓reduceIte, Nat.reduceEqDiff, Nat.reduceAdd, D.fix, Int.reduceToNat, Nat.reduceMul, Nat.reduceBNe, Nat.reduceBEq, zbu]
  refine hK5 _ _ ?_
  refine zal ?_
  show closeA _ _ = _
  refine jz4 ?_
  rw [e]
theorem jj7 (b : List Int) (i n : Nat) (h1 : i ≤ 1000000000) (h2 : n ≤ 1000000000) : zaz Try.prog 91 [.agg (zbu b i), iD n] (.d (.agg (zbu b (i + n)))) := by
 refine zaw (fn := Try.f91) (by kernel_rfl) Try.func91 rfl (Nat.le_of_ble_eq_true rfl) fun c hc hp => ?_
 refine za0 (τ' := frL [(0, .d (.agg (zbu b i))), (1, .d (iD n))]) (by repeat (first | exact zar _ | refine zam ?_ (by first | rfl | (simp [r_f]; done) | simp [r_f, *]))) ?_
 refine szq hp (fun _ hZ => jj6 hZ) ?_
 refine szq hp (fun _ hZ => jj6 hZ) ?_
 refine szq hp (fun _ hZ => jj6 hZ) ?_
 refine zal ?_
 try dsimp only [zbm, zaq]
 refine zak rfl ?_
 simp -dsimp -implicitDefEqProofs (disch := first | assumption | omega | (simp only [r_z] <;> omega) | decide) only [r_r, ↓reduceIte, Nat.reduceEqDiff, Nat.reduceAdd, D.fix, Int.reduceToNat, Nat.reduceMul, Nat.reduceBNe, Nat.reduceBEq, zbu, zgb, zgc]
 show closeA _ _ = _
 refine jz4 ?_
 simp
theorem jgv {n : Nat} (h : n < 8) : ∃ s : ByteArray, s.size ≤ 3 ∧ zaz Try.prog 92 [iD n] (.d (sD s)) := by
 rcases (show n = 0 ∨ n = 1 ∨ n = 2 ∨ n = 3 ∨ n = 4 ∨ n = 5 ∨ n = 6 ∨ n = 7 by omega) with rfl | rfl | rfl | rfl | rfl | rfl | rfl | rfl
 ·exact ⟨⟨#[97]⟩, by decide, zbq (n := 60) za8 zai (by kernel_rfl)⟩
 ·exact ⟨⟨#[98]⟩, by decide, zbq (n := 60) za8 zai (by kernel_rfl)⟩
 ·exact ⟨⟨#[99,48]⟩, by decide, zbq (n := 60) za8 zai (by kernel_rfl)⟩
 ·exact ⟨⟨#[119]⟩, by decide, zbq (n := 60) za8 zai (by kernel_rfl)⟩
 ·exact ⟨⟨#[120,49,121]⟩, by decide, zbq (n := 60) za8 zai (by kernel_rfl)⟩
 ·exact ⟨⟨#[116,111,112]⟩, by decide, zbq (n := 60) za8 zai (by kernel_rfl)⟩
 ·exact ⟨⟨#[122,57]⟩, by decide, zbq (n := 60) za8 zai (by kernel_rfl)⟩
 ·exact ⟨⟨#[109]⟩, by decide, zbq (n := 60) za8 zai (by kernel_rfl)⟩
theorem jwh {w : Nat} (h : w ≤ 8) : IntKind.i64.wrap (1 * 2 ^ min w 64) = ((2 ^ w : Nat) : Int) := by
 rcases (show w = 0 ∨ w = 1 ∨ w = 2 ∨ w = 3 ∨ w = 4 ∨ w = 5 ∨ w = 6 ∨ w = 7 ∨ w = 8 by omega) with rfl | rfl | rfl | rfl | rfl | rfl | rfl | rfl | rfl <;> decide
theorem jam {v w : Nat} (hv : v < 2 ^ 62) (h : w ≤ 8) : zvp .and .i64 v (((2 ^ w : Nat) : Int) - 1) = ((v % 2 ^ w : Nat) : Int) := by
 have hp := Nat.two_pow_pos w
 have hp2 : 2 ^ w ≤ 256 := Nat.pow_le_pow_right (n := 2) (by decide) h
 have e1 : (((2 ^ w : Nat) : Int) - 1) = ((2 ^ w - 1 : Nat) : Int) := by omega
 rw [e1]
 show IntKind.i64.wrap ((BitVec.ofInt 64 (v : Int) &&& BitVec.ofInt 64 ((2 ^ w - 1 : Nat) : Int)).toNat : Int) = _
 have e : (BitVec.ofInt 64 (v : Int) &&& BitVec.ofInt 64 ((2 ^ w - 1 : Nat) : Int)).toNat = v % 2 ^ w := by
  rw [BitVec.toNat_and]
  simp only [BitVec.ofInt_natCast, BitVec.toNat_ofNat]
  rw [Nat.mod_eq_of_lt (show v < 2 ^ 64 by omega), Nat.mod_eq_of_lt (show 2 ^ w - 1 < 2 ^ 64 by omega), Nat.and_two_pow_sub_one_eq_mod]
 have := Nat.mod_lt v hp
 rw [e, zua (by omega) (by omega)]
theorem jwi {v w : Nat} : v % 2 ^ w < 2 ^ w := Nat.mod_lt _ (Nat.two_pow_pos w)
theorem jwj (v w : Nat) (hv : v < 1000) (hw : w ≤ 8) : zaz Try.prog 94 [iD v, iD w] (.d (.agg (exC (.con (v % 2 ^ w) w)))) := by
 have hu : IntKind.u64.wrap (w : Int) = w := zwd (by omega) (by omega)
 have hs := jwh hw
 have hm := jam (v := v) (w := w) (by omega) hw
 have hp := Nat.two_pow_pos w
 have hp2 : 2 ^ w ≤ 256 := Nat.pow_le_pow_right (n := 2) (by decide) hw
 obtain ⟨M, hM⟩ : ∃ M : Nat, 2 ^ w = M := ⟨_, rfl⟩
 rw [hM] at hs hm hp hp2
 rw [hM]
 refine zaw (fn := Try.f94) (by kernel_rfl) Try.func94 rfl (Nat.le_of_ble_eq_true rfl) fun c hc hp => ?_
 refine za0 (τ' := frL [(0, .d (iD v)), (1, .d (iD w))]) (by repeat (first | exact zar _ | refine zam ?_ (by first | rfl | (simp [r_f]; done) | simp [r_f, *]))) ?_
 refine zag hp zai hc rfl fun K1 hK1 => ?_
 simp -dsimp -implicitDefEqProofs (disch := first | assumption | omega | (simp only [r_z] <;> omega) | decide) only [r_r, ↓reduceIte, Nat.reduceEqDiff, Nat.reduceAdd, D.fix, Int.reduceToNat, Nat.reduceMul, Nat.reduceBNe, Nat.reduceBEq, exC, exR, jgu]
 refine hK1 _ _ ?_
 refine zag hp zai hc rfl fun K2 hK2 => ?_
 simp -dsimp -implicitDefEqProofs (disch := first | assumption | omega | (simp only [r_z] <;> omega) | decide) only [r_r, ↓reduceIte, Nat.reduceEqDiff, Nat.reduceAdd, D.fix, Int.reduceToNat, Nat.reduceMul, Nat.reduceBNe, Nat.reduceBEq, exC, exR, hu, hs, hm, Int.toNat_natCast, jgu]
 refine hK2 _ _ ?_
 refine zal ?_
 try dsimp only [zbm, zaq]
 refine zak rfl ?_
 simp -dsimp -implicitDefEqProofs (disch := first | assumption | omega | (simp only [r_z] <;> omega) | decide) only [r_r, ↓reduceIte, Nat.reduceEqDiff, Nat.reduceAdd, D.fix, Int.reduceToNat, Nat.reduceMul, Nat.reduceBNe, Nat.reduceBEq, exC, exR, zd6, zel]
 show closeA _ _ = _
 simp (disch := first | assumption | omega | (simp only [r_z] <;> omega) | decide) only [r_c, Nat.reduceAdd, D.fix, ↓reduceIte, Nat.reduceEqDiff, exC, exR]
 simp [nS, iD]
end Go.Proofs.Ytapjobndmmkanaa
