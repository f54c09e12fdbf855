/- Netlists of any fitting process are valid. -/
import Derived.Test.YtapjobndmmkanaaLee
set_option linter.unusedVariables false
set_option linter.unusedSimpArgs false
namespace Go.Proofs.Ytapjobndmmkanaa
open Go Go.RowKit
section
variable {p : Pr}
theorem jh6 (h : PrOk p) {i : Nat} (hi : i < p.regs.length) : 1 ≤ (nth p.regs i).w ∧ (nth p.regs i).w ≤ 8 := by
 have := h.ct.r i (by simpa [ctP] using hi)
 rwa [show nth (ctP p).regs i = (nth p.regs i).w from jbx hi] at this
theorem jr8 (h : PrOk p) {i : Nat} (hi : i < p.takes.length) : 1 ≤ (nth p.takes i).w ∧ (nth p.takes i).w ≤ 8 := by
 have := h.ct.t i (by simpa [ctP] using hi)
 rwa [yas hi] at this
theorem jzq (h : PrOk p) {i : Nat} (hi : i < p.mems.length) : 1 ≤ (nth p.mems i).w ∧ (nth p.mems i).w ≤ 8 := by
 have := h.ct.m i (by simpa [ctP] using hi)
 rw [show nth (ctP p).mems i = ((nth p.mems i).words, (nth p.mems i).w) from jbx hi] at this
 exact this.2.2
theorem jzr (h : PrOk p) : p.mems.length ≤ 8 := by have := h.ct.l; simpa [ctP] using this
theorem jzs (h : PrOk p) : ∀ i, i ≤ p.regs.length → ∀ w ∈ zfe p i, WireIn w
 | 0, _ => by intro w hw; simp [zfe] at hw
 | i + 1, hi => by
  rw [zfe]
  have := (jh6 h (show i < p.regs.length by omega)).2; have := h.rl
  exact zcs (jzs h i (by omega)) (zdn fun k hk => ⟨by simp, by simp, by simp, by simp, by simp only; omega, by simp only; omega⟩)
theorem jzt (h : PrOk p) : ∀ i, i ≤ p.takes.length → ∀ w ∈ ze3 p i, WireIn w
 | 0, _ => jzs h _ (Nat.le_refl _)
 | i + 1, hi => by
  rw [ze3]
  have := (jr8 h (show i < p.takes.length by omega)).2; have := h.tl
  exact zcs (zcs (jzt h i (by omega)) (zdn fun k hk => ⟨by simp, by simp, by simp, by simp, by simp only; omega, by simp only; omega⟩)) (zdn fun k hk => ⟨by simp, by simp, by simp, by simp, by simp only; omega, by simp only; omega⟩)
theorem jzu (h : PrOk p) : ∀ i, i ≤ p.puts.length → ∀ w ∈ zfz p i, WireIn w
 | 0, _ => jzt h _ (Nat.le_refl _)
 | i + 1, hi => by
  rw [zfz]
  have := h.ql
  exact zcs (jzu h i (by omega)) (zdn fun k hk => ⟨by simp, by simp, by simp, by simp, by simp only; omega, by simp only; omega⟩)
theorem jzv (h : PrOk p) : ∀ i, i ≤ p.regs.length → ∀ w ∈ (zbu p i).out, WireOut w
 | 0, _ => by intro w hw; simp [zbu] at hw
 | i + 1, hi => by
  have hs := (zhx h (show i < p.regs.length by omega) (zeb h i (by omega))).b.wid
  rw [zbu]; simp only [hs]
  have := (jh6 h (show i < p.regs.length by omega)).2; have := h.rl
  exact zcs (jzv h i (by omega)) (zdn fun k hk => ⟨by simp, by simp, by simp, by simp only; omega, by simp only; omega⟩)
theorem jzw (h : PrOk p) : ∀ i, i ≤ p.takes.length → ∀ w ∈ (zc8 p i).out, WireOut w
 | 0, _ => jzv h _ (Nat.le_refl _)
 | i + 1, hi => by
  rw [zc8]; simp only
  have := h.tl
  exact zcs (jzw h i (by omega)) (zqm ⟨by simp, by simp, by simp, by simp, by simp only; omega⟩)
theorem jzx (h : PrOk p) : ∀ i, i ≤ p.puts.length → ∀ w ∈ (zc3 p i).out, WireOut w
 | 0, _ => jzw h _ (Nat.le_refl _)
 | i + 1, hi => by
  have hs := (zmg h (show i < p.puts.length by omega) (zhk h i (by omega))).hb.wid
  rw [zc3]; simp only [hs]
  have := (h.qb i (by omega)).2; have := h.ql
  exact zcs (zcs (jzx h i (by omega)) (zqm ⟨by simp, by simp, by simp, by simp, by simp only; omega⟩)) (zdn fun k hk => ⟨by simp, by simp, by simp, by simp only; omega, by simp only; omega⟩)
theorem jzy (h : PrOk p) : ∀ i, i ≤ p.mems.length → ∀ w ∈ (zcg p i).out, WireOut w
 | 0, _ => jzx h _ (Nat.le_refl _)
 | i + 1, hi => by
  have hs := (zmh h (show i < p.mems.length by omega) (zdy h i (by omega)) rfl rfl rfl rfl).hw.wid
  rw [zcg]; simp only [hs]
  have := (jzq h (show i < p.mems.length by omega)).2; have := jzr h
  exact zcs (zcs (zcs (jzy h i (by omega)) (zqm ⟨by simp, by simp, by simp, by simp, by simp only; omega⟩)) (zdn fun k hk => ⟨by simp, by simp, by simp, by simp only; omega, by simp only; omega⟩)) (zdn fun k hk => ⟨by simp, by simp, by simp, by simp only; omega, by simp only; omega⟩)
theorem jzz (h : PrOk p) (hb : 2 + (zfi p).length + (ze4 p).gates.length ≤ 600) (ho : (ze4 p).out.length ≤ 1000) : NetV (ze4 p) := by
 have hm := zdy h _ (Nat.le_refl _)
 refine ⟨hb, hm.ol, jzu h _ (Nat.le_refl _), jzy h _ (Nat.le_refl _), fun k hk => ?_, fun g hg => ?_, fun k hk => hm.dn k hk, by rw [← show (ze4 p).out.length = (ze4 p).drive.length from hm.ol]; exact ho⟩
 ·have := hm.gi.rg k hk
  exact ⟨this.o1, this.o2, this.a0, this.a1, this.b0, this.b1, this.c0, this.c1, this.n0, Int.lt_of_lt_of_le this.n1 (by decide)⟩
 ·obtain ⟨k, hk, e⟩ := List.mem_iff_getElem.1 hg
  have hk' : k < (zcg p p.mems.length).gs.length := hk
  have := hm.gi.rg k hk'
  rw [show nth (zcg p p.mems.length).gs k = g by rw [zdd hk']; exact e] at this
  exact ⟨this.cz, this.bz, this.nz, by have := this.n1; omega⟩
end
section
variable {n w : Nat}
theorem jh7 (hn : 1 ≤ n) (hn' : n ≤ 16) (hw : 1 ≤ w) (hw' : w ≤ 8) : ∀ i, i ≤ n → (zbu (lgP n w) i).out.length = i * w
 | 0, _ => by simp [zbu]
 | i + 1, hi => by
  have h := zum hn hn' hw hw'
  have hs := (zhx h (show i < (lgP n w).regs.length by rw [zm2]; omega) (zeb h i (by rw [zm2]; omega))).b.wid
  rw [zbu]; simp only [List.length_append, zaz]
  rw [hs, jh7 hn hn' hw hw' i (by omega), jtb (by omega), Nat.succ_mul i]; rfl
theorem jr9 : (ze4 (lgP n w)).out = (zbu (lgP n w) n).out := by
 show (zbu (lgP n w) (lgP n w).regs.length).out = _
 rw [zm2]
theorem ygm (hn : 1 ≤ n) (hn' : n ≤ 9) (hw : 1 ≤ w) (hw' : w ≤ 8) : NetV (ze4 (lgP n w)) := by
 refine jzz (zum hn (by omega) hw hw') (jo0 hn hn' hw hw') ?_
 rw [jr9, jh7 hn (by omega) hw hw' n (Nat.le_refl _)]
 have : n * w ≤ 9 * 8 := Nat.mul_le_mul hn' hw'
 omega
theorem jay (hn : 1 ≤ n) (hn' : n ≤ 9) (hw : 1 ≤ w) (hw' : w ≤ 8) : zbg Try.prog 30 [zbq (lgP n w)] (.d (.agg (zeq (ze4 (lgP n w)) 0))) := by
 have h1 : n * w ≤ 9 * 8 := Nat.mul_le_mul hn' hw'
 have h2 : n * (12 * w + 1) ≤ 9 * 97 := Nat.mul_le_mul hn' (by omega)
 have h3 := jo0 hn hn' hw hw'
 exact zlf _ (zum hn (by omega) hw hw') (by rw [jam]; omega) (by rw [zrv hn]; omega) (Nat.zero_le _) (by omega)
end
end Go.Proofs.Ytapjobndmmkanaa
