/- Processes that bytes describe, as processes. -/
import Derived.Test.YtapjobndmmkanaaVi
import Derived.Test.YtapjobndmmkanaaOb
set_option linter.unusedVariables false
set_option linter.unusedSimpArgs false
namespace Go.Proofs.Ytapjobndmmkanaa
open Go Go.RowKit
def prC (r : PReg) : List D := [sD r.name, iD r.w, iD r.init] ++ (exC r.next ++ [iD r.rk, sD r.rf, iD r.rn])
def pmC (m : PMem) : List D := [sD m.name, iD m.w, iD m.words] ++ (exC m.en ++ (exC m.ad ++ (exC m.da ++ [iD m.rk, sD m.rf, iD m.rn])))
def ptC (t : PTake) : List D := [iD t.chan, iD t.w] ++ exC t.wh
def pqC (q : PPut) : List D := [iD q.chan, iD q.w] ++ (exC q.wh ++ exC q.da)
def zbp (p : Pr) : List D := [sD p.name, sD p.clock, .fs (p.regs.flatMap prC) p.regs.length, .fs (p.mems.flatMap pmC) p.mems.length, .fs (p.takes.flatMap ptC) p.takes.length, .fs (p.puts.flatMap pqC) p.puts.length]
def zdi (p : Pr) : D := .agg (zbp p)
theorem zfr (e : Ex) : (exC e).length = 7 := by cases e <;> rfl
theorem ybu (r : PReg) : (prC r).length = 13 := by simp [prC, zfr]
theorem jxf (m : PMem) : (pmC m).length = 27 := by simp [pmC, zfr]
theorem ybv (t : PTake) : (ptC t).length = 9 := by simp [ptC, zfr]
theorem ybw (q : PPut) : (pqC q).length = 16 := by simp [pqC, zfr]
def toR (r : RG) : PReg := ⟨r.name, r.w, r.init, r.nx.getD default, r.rk, r.rf, r.rn⟩
def toM (m : MG) : PMem := ⟨m.name, m.w, m.words, m.en.getD default, m.ad.getD default, m.da.getD default, m.rk, m.rf, m.rn⟩
def toT (t : TG) : PTake := ⟨t.chan, t.w, t.wh.getD default⟩
def toQ (q : QG) : PPut := ⟨q.chan, q.w, q.wh.getD default, q.da.getD default⟩
theorem zim {α β : Type} [Inhabited α] {f : α → List D} {g : β → List D} {t : α → β} : ∀ {l : List α}, (∀ k, k < l.length → f (nth l k) = g (t (nth l k))) → l.flatMap f = (l.map t).flatMap g
 | [], _ => rfl
 | a :: l, h => by
  rw [List.flatMap_cons, List.map_cons, List.flatMap_cons, zim (l := l) (fun k hk => h (k + 1) (by simpa using hk))]
  exact congrArg (· ++ _) (h 0 (by simp))
structure Proc (p : Pr) : Prop where
 ok : PrOk p
 cost : zo8 p ≤ 491
 ins : (zbl p).length ≤ 17
 r1 : 1 ≤ p.regs.length
 r3 : p.regs.length ≤ 3
 t2 : p.takes.length ≤ 2
 q2 : p.puts.length ≤ 2
 m1 : p.mems.length ≤ 1
 rw : ∀ i, i < p.regs.length → 1 ≤ (nth p.regs i).w ∧ (nth p.regs i).w ≤ 3
 tw : ∀ i, i < p.takes.length → 1 ≤ (nth p.takes i).w ∧ (nth p.takes i).w ≤ 2
 qw : ∀ i, i < p.puts.length → 1 ≤ (nth p.puts i).w ∧ (nth p.puts i).w ≤ 2
 mw : ∀ i, i < p.mems.length → 1 ≤ (nth p.mems i).w ∧ (nth p.mems i).w ≤ 2 ∧ ((nth p.mems i).words = 1 ∨ (nth p.mems i).words = 2 ∨ (nth p.mems i).words = 4)
def mdP (rs : List RG) (ms : List MG) (ts : List TG) (qs : List QG) : Pr := ⟨⟨#[112]⟩, ⟨#[97]⟩, rs.map toR, ms.map toM, ts.map toT, qs.map toQ⟩
section
variable {rw tw : List Nat} {mw : List (Nat × Nat)} {rs : List RG} {ms : List MG} {ts : List TG} {qs : List QG}
theorem jqd (h : MdR rw tw mw rs ms ts qs) : ctP (mdP rs ms ts qs) = ctG rw tw mw := by
 unfold ctP mdP ctG
 simp only [List.map_map]
 rw [← h.rl, ← h.tl, ← h.ml]
 rfl
theorem jkk (h : MdR rw tw mw rs ms ts qs) : mdC rs ms ts qs = zbp (mdP rs ms ts qs) := by
 unfold mdC zbp mdP
 simp only [List.length_map]
 rw [zim (l := rs) (g := prC) (t := toR) fun k hk => by
   obtain ⟨e, he, _⟩ := h.r k hk
   simp [rgC, prC, toR, he, exO],
  zim (l := ms) (g := pmC) (t := toM) fun k hk => by
   obtain ⟨e, a, d, h1, h2, h3, _⟩ := h.m k hk
   simp [mgC, pmC, toM, h1, h2, h3, exO],
  zim (l := ts) (g := ptC) (t := toT) fun k hk => by
   obtain ⟨e, he, _⟩ := h.t k hk
   simp [tgC, ptC, toT, he, exO],
  zim (l := qs) (g := pqC) (t := toQ) fun k hk => by
   obtain ⟨e, d, h1, h2, _⟩ := h.q k hk
   simp [qgC, pqC, toQ, h1, h2, exO]]
theorem yaf (h : MdR rw tw mw rs ms ts qs) {i : Nat} (hi : i < rs.length) : Fit (ctG rw tw mw) true (toR (nth rs i)).w (if i = 0 then 128 else 32) (toR (nth rs i)).next := by
 obtain ⟨e, he, hf⟩ := h.r i hi
 unfold toR
 rw [he]; exact hf
theorem yag (h : MdR rw tw mw rs ms ts qs) {i : Nat} (hi : i < ts.length) : Fit (ctG rw tw mw) false 1 32 (toT (nth ts i)).wh := by
 obtain ⟨e, he, hf⟩ := h.t i hi
 unfold toT
 rw [he]; exact hf
theorem jrk (h : MdR rw tw mw rs ms ts qs) {i : Nat} (hi : i < qs.length) : Fit (ctG rw tw mw) true 1 32 (toQ (nth qs i)).wh ∧ Fit (ctG rw tw mw) true (toQ (nth qs i)).w 32 (toQ (nth qs i)).da := by
 obtain ⟨e, d, h1, h2, h3, h4⟩ := h.q i hi
 unfold toQ
 rw [h1, h2]; exact ⟨h3, h4⟩
theorem jrl (h : MdR rw tw mw rs ms ts qs) {i : Nat} (hi : i < ms.length) : Fit (ctG rw tw mw) true 1 32 (toM (nth ms i)).en ∧ (WT (ctG rw tw mw) true (toM (nth ms i)).ad ∧ zbw (ctG rw tw mw) (toM (nth ms i)).ad = 0) ∧ Fit (ctG rw tw mw) true (toM (nth ms i)).w 32 (toM (nth ms i)).da := by
 obtain ⟨e, a, d, h1, h2, h3, h4, h5, h6, h7⟩ := h.m i hi
 unfold toM
 rw [h1, h2, h3]; exact ⟨h4, ⟨h5, h6⟩, h7⟩
theorem jqe (h : MdR rw tw mw rs ms ts qs) : 1 ≤ rs.length ∧ rs.length ≤ 3 ∧ ts.length ≤ 2 ∧ qs.length ≤ 2 ∧ ms.length ≤ 1 := by
 have e1 := congrArg List.length h.rl; have e2 := congrArg List.length h.tl; have e3 := congrArg List.length h.ml
 simp only [List.length_map] at e1 e2 e3
 have := h.wd.r1; have := h.wd.r3; have := h.wd.t2; have := h.wd.m1; have := h.q2
 omega
theorem jxg (h : MdR rw tw mw rs ms ts qs) {i : Nat} (hi : i < rs.length) : 1 ≤ (nth rs i).w ∧ (nth rs i).w ≤ 3 := by
 have := zvf h.rl hi
 rw [← this.2]; exact h.wd.r _ (zb0 this.1)
theorem jxh (h : MdR rw tw mw rs ms ts qs) {i : Nat} (hi : i < ts.length) : 1 ≤ (nth ts i).w ∧ (nth ts i).w ≤ 2 := by
 have := zvf h.tl hi
 rw [← this.2]; exact h.wd.t _ (zb0 this.1)
theorem yah (h : MdR rw tw mw rs ms ts qs) {i : Nat} (hi : i < ms.length) : 1 ≤ (nth ms i).w ∧ (nth ms i).w ≤ 2 ∧ ((nth ms i).words = 1 ∨ (nth ms i).words = 2 ∨ (nth ms i).words = 4) := by
 have h1 : i < mw.length ∧ nth mw i = ((nth ms i).words, (nth ms i).w) := by rw [← h.ml]; exact ⟨by simpa using hi, zgm hi⟩
 have := h.wd.m _ (zb0 h1.1)
 rw [h1.2] at this
 exact ⟨this.2.1, this.2.2, this.1⟩
structure Bd (p : Pr) : Prop where
 t : ∀ i, i < p.takes.length → zbw (ctP p) (nth p.takes i).wh ≤ 32 ∧ (nth p.takes i).w ≤ 2
 q : ∀ i, i < p.puts.length → zbw (ctP p) (nth p.puts i).wh ≤ 32 ∧ zbw (ctP p) (nth p.puts i).da ≤ 32 ∧ (nth p.puts i).w ≤ 2
 r : ∀ i, i < p.regs.length → zbw (ctP p) (nth p.regs i).next ≤ (if i = 0 then 128 else 32) ∧ (nth p.regs i).w ≤ 3
 m : ∀ i, i < p.mems.length → zbw (ctP p) (nth p.mems i).en ≤ 32 ∧ zbw (ctP p) (nth p.mems i).ad = 0 ∧ zbw (ctP p) (nth p.mems i).da ≤ 32
theorem ybx {p : Pr} (h : Bd p) : ∀ k, k ≤ p.takes.length → cTP p k ≤ 34 * k
 | 0, _ => by simp [cTP]
 | k + 1, hk => by have := ybx h k (by omega); have := h.t k (by omega); rw [cTP]; omega
theorem yai {p : Pr} (h : Bd p) : ∀ k, k ≤ p.puts.length → cQP p k ≤ 34 * p.takes.length + 32 * k
 | 0, _ => by have := ybx h _ (Nat.le_refl _); rw [cQP]; omega
 | k + 1, hk => by have := yai h k (by omega); have := h.q k (by omega); rw [cQP]; omega
theorem yby {p : Pr} (h : Bd p) : ∀ k, k ≤ p.regs.length → cRP p k ≤ 37 * p.takes.length + 35 * p.puts.length + 38 * k + 96
 | 0, _ => by have := yai h _ (Nat.le_refl _); rw [cRP]; omega
 | k + 1, hk => by
  have := yby h k (by omega); have h2 := h.r k (by omega); rw [cRP]
  by_cases e : k = 0
  ·subst e
   have := yai h _ (Nat.le_refl _)
   rw [if_pos rfl] at h2; rw [cRP]; omega
  ·rw [if_neg e] at h2; omega
theorem ybz {p : Pr} (h : Bd p) : ∀ k, k ≤ p.puts.length → cUP p k ≤ 38 * p.takes.length + 35 * p.puts.length + 38 * p.regs.length + 96 + 35 * k
 | 0, _ => by have := yby h _ (Nat.le_refl _); rw [cUP]; omega
 | k + 1, hk => by have := ybz h k (by omega); have := h.q k (by omega); rw [cUP]; omega
theorem yb0 {p : Pr} (h : Bd p) : ∀ k, k ≤ p.mems.length → cMP p k ≤ 38 * p.takes.length + 70 * p.puts.length + 38 * p.regs.length + 96 + 65 * k
 | 0, _ => by have := ybz h _ (Nat.le_refl _); rw [cMP]; omega
 | k + 1, hk => by have := yb0 h k (by omega); have := h.m k (by omega); rw [cMP]; omega
theorem yb1 {p : Pr} (h : Bd p) : ∀ k, k ≤ p.regs.length → (zpg p k).length ≤ 3 * k
 | 0, _ => by simp [zpg]
 | k + 1, hk => by have := yb1 h k (by omega); have := h.r k (by omega); rw [zpg, List.length_append, za9]; omega
theorem yb2 {p : Pr} (h : Bd p) : ∀ k, k ≤ p.takes.length → (zmg p k).length ≤ 3 * p.regs.length + 3 * k
 | 0, _ => by have := yb1 h _ (Nat.le_refl _); rw [zmg]; omega
 | k + 1, hk => by have := yb2 h k (by omega); have := h.t k (by omega); rw [zmg, List.length_append, List.length_append, za9, za9]; omega
theorem yb3 {p : Pr} (h : Bd p) : ∀ k, k ≤ p.puts.length → (zoa p k).length ≤ 3 * p.regs.length + 3 * p.takes.length + k
 | 0, _ => by have := yb2 h _ (Nat.le_refl _); rw [zoa]; omega
 | k + 1, hk => by have := yb3 h k (by omega); rw [zoa, List.length_append, za9]; omega
theorem yaj (h : MdR rw tw mw rs ms ts qs) : Bd (mdP rs ms ts qs) := by
 refine ⟨fun i hi => ?_, fun i hi => ?_, fun i hi => ?_, fun i hi => ?_⟩ <;> rw [jqd h] <;> simp only [mdP, List.length_map] at hi ⊢ <;> rw [zgm hi]
 ·exact ⟨(yag h hi).n, (jxh h hi).2⟩
 ·exact ⟨(jrk h hi).1.n, (jrk h hi).2.n, (h.qw i hi).2⟩
 ·exact ⟨(yaf h hi).n, (jxg h hi).2⟩
 ·have := jrl h hi
  exact ⟨this.1.n, this.2.1.2, this.2.2.n⟩
theorem jqf (h : MdR rw tw mw rs ms ts qs) : Proc (mdP rs ms ts qs) := by
 obtain ⟨l1, l2, l3, l4, l5⟩ := jqe h
 have hb := yaj h
 have hc : zo8 (mdP rs ms ts qs) ≤ 491 := by
  have := yb0 hb _ (Nat.le_refl _)
  unfold zo8
  simp only [mdP, List.length_map] at this ⊢
  omega
 refine ⟨⟨by rw [jqd h]; exact h.wd.ct, fun i hi => ?_, fun i hi => ?_, fun i hi => ?_, fun i hi => ?_, fun i hi => ?_, fun i hi => ?_, fun i hi => ?_, fun i hi => ?_, ?_, ?_, ?_, by omega⟩, hc, ?_, ?_, ?_, ?_, ?_, ?_, fun i hi => ?_, fun i hi => ?_, fun i hi => ?_, fun i hi => ?_⟩
 any_goals rw [jqd h]
 any_goals (simp only [mdP, List.length_map] at hi ⊢; rw [zgm hi])
 any_goals (simp only [mdP, List.length_map]; omega)
 ·exact ⟨(yag h hi).t, (yag h hi).w⟩
 ·exact ⟨(yaf h hi).t, (yaf h hi).w⟩
 ·exact ⟨(jrk h hi).1.t, (jrk h hi).1.w⟩
 ·exact ⟨(jrk h hi).2.t, (jrk h hi).2.w⟩
 ·have := h.qw i hi
  exact ⟨this.1, by show (nth qs i).w ≤ 8; omega⟩
 ·exact ⟨(jrl h hi).1.t, (jrl h hi).1.w⟩
 ·exact (jrl h hi).2.1.1
 ·exact ⟨(jrl h hi).2.2.t, (jrl h hi).2.2.w⟩
 ·have := yb3 hb _ (Nat.le_refl _)
  unfold zbl
  simp only [mdP, List.length_map] at this ⊢
  omega
 ·exact jxg h hi
 ·exact jxh h hi
 ·exact h.qw i hi
 ·exact yah h hi
end
theorem zwv {P : Program} {f : FuncId} {ds : List D} {Q Q' : AV → Prop} (h : zf5 P f ds Q) (hq : ∀ r, Q r → Q' r) : zf5 P f ds Q' :=
 ⟨h.1, fun w O vals h1 h2 h3 => (h.2 w O vals h1 h2 h3).mono fun e w' ⟨v, r, he, hr, h4, h5⟩ => ⟨v, r, he, hq r hr, h4, h5⟩⟩
theorem jqg (b : List Int) (hb : zfx b) (hl : b.length ≤ maxLen) : zf5 Try.prog 28 [.agg [bytesD b]] fun r => ∃ p, Proc p ∧ r = .d (zdi p) :=
 zwv (jqc b hb hl) fun r ⟨rw, tw, mw, rs, ms, ts, qs, h, e⟩ => ⟨_, jqf h, by rw [e, jkk h]; rfl⟩
end Go.Proofs.Ytapjobndmmkanaa
