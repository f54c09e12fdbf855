/- Processes that bytes describe, as processes. -/
import Derived.Test.YtapjobndmmkanaaVi
import Derived.Test.YtapjobndmmkanaaOk
import Derived.Test.YtapjobndmmkanaaQr
import Derived.Test.YtapjobndmmkanaaVb
set_option linter.unusedVariables false
set_option linter.unusedSimpArgs false
namespace Go.Proofs.Ytapjobndmmkanaa
open Go Go.RowKit
section
def prC (r : PReg) : List D := [sD r.name, iD r.w, iD r.init] ++ (exC r.next ++ [iD r.rk, sD r.rf, iD r.rn])
def pmC (m : PMem) : List D := [sD m.name, iD m.w, iD m.words] ++ (exC m.en ++ (exC m.ad ++ (exC m.da ++ [iD m.rk, sD m.rf, iD m.rn])))
def ptC (t : PTake) : List D := [iD t.chan, iD t.w] ++ exC t.wh
def pqC (q : PPut) : List D := [iD q.chan, iD q.w] ++ (exC q.wh ++ exC q.da)
def zar (p : Pr) : List D := [sD p.name, sD p.clock, .fs (p.regs.flatMap prC) p.regs.length, .fs (p.mems.flatMap pmC) p.mems.length, .fs (p.takes.flatMap ptC) p.takes.length, .fs (p.puts.flatMap pqC) p.puts.length]
def zbq (p : Pr) : D := .agg (zar p)
theorem zv9 (e : Ex) : (exC e).length = 7 := by cases e <;> rfl
theorem zrl (r : PReg) : (prC r).length = 13 := by simp [prC, zv9]
theorem zt7 (m : PMem) : (pmC m).length = 27 := by simp [pmC, zv9]
theorem zwa (t : PTake) : (ptC t).length = 9 := by simp [ptC, zv9]
theorem zot (q : PPut) : (pqC q).length = 16 := by simp [pqC, zv9]
theorem za7 {l : List PReg} : (l.flatMap prC).length = l.length * 13 := zca zrl l
theorem zbr {l : List PMem} : (l.flatMap pmC).length = l.length * 27 := zca zt7 l
theorem zbb {l : List PTake} : (l.flatMap ptC).length = l.length * 9 := zca zwa l
theorem zbc {l : List PPut} : (l.flatMap pqC).length = l.length * 16 := zca zot l
def toR (r : RG) : PReg := ⟨r.name, r.w, r.init, r.nx.getD default, r.rk, r.rf, r.rn⟩
def toM (m : MG) : PMem := ⟨m.name, m.w, m.words, m.en.getD default, m.ad.getD default, m.da.getD default, m.rk, m.rf, m.rn⟩
def toT (t : TG) : PTake := ⟨t.chan, t.w, t.wh.getD default⟩
def toQ (q : QG) : PPut := ⟨q.chan, q.w, q.wh.getD default, q.da.getD default⟩
theorem ziw {α β : Type} [Inhabited α] {f : α → List D} {g : β → List D} {t : α → β} : ∀ {l : List α}, (∀ k, k < l.length → f (nth l k) = g (t (nth l k))) → l.flatMap f = (l.map t).flatMap g
 | [], _ => rfl
 | a :: l, h => by
  rw [List.flatMap_cons, List.map_cons, List.flatMap_cons, ziw (l := l) (fun k hk => h (k + 1) (by simpa using hk))]
  exact congrArg (· ++ _) (h 0 (by simp))
structure Proc (p : Pr) : Prop where
 ok : PrOk p
 cost : zgz p ≤ 491
 ins : (zfi p).length ≤ 17
 r1 : 1 ≤ p.regs.length
 r3 : p.regs.length ≤ 3
 t2 : p.takes.length ≤ 2
 q2 : p.puts.length ≤ 2
 m1 : p.mems.length ≤ 1
 rw : ∀ i, i < p.regs.length → 1 ≤ (nth p.regs i).w ∧ (nth p.regs i).w ≤ 3
 tw : ∀ i, i < p.takes.length → 1 ≤ (nth p.takes i).w ∧ (nth p.takes i).w ≤ 2
 qw : ∀ i, i < p.puts.length → 1 ≤ (nth p.puts i).w ∧ (nth p.puts i).w ≤ 2
 mw : ∀ i, i < p.mems.length → 1 ≤ (nth p.mems i).w ∧ (nth p.mems i).w ≤ 2 ∧ ((nth p.mems i).words = 1 ∨ (nth p.mems i).words = 2 ∨ (nth p.mems i).words = 4)
 rn : ∀ i, i < p.regs.length → (nth p.regs i).name.size ≤ 9
 mn : ∀ i, i < p.mems.length → (nth p.mems i).name.size ≤ 9
def mdP (rs : List RG) (ms : List MG) (ts : List TG) (qs : List QG) : Pr := ⟨⟨#[112]⟩, ⟨#[97]⟩, rs.map toR, ms.map toM, ts.map toT, qs.map toQ⟩
section
variable {rw tw : List Nat} {mw : List (Nat × Nat)} {rs : List RG} {ms : List MG} {ts : List TG} {qs : List QG}
theorem jqn (h : MdR rw tw mw rs ms ts qs) : ctP (mdP rs ms ts qs) = ctG rw tw mw := by
 unfold ctP mdP ctG
 simp only [List.map_map]
 rw [← h.rl, ← h.tl, ← h.ml]
 rfl
theorem jke (h : MdR rw tw mw rs ms ts qs) : mdC rs ms ts qs = zar (mdP rs ms ts qs) := by
 unfold mdC zar mdP
 simp only [List.length_map]
 rw [ziw (l := rs) (g := prC) (t := toR) fun k hk => by
   obtain ⟨e, he, _⟩ := h.r k hk
   simp [rgC, prC, toR, he, exO],
  ziw (l := ms) (g := pmC) (t := toM) fun k hk => by
   obtain ⟨e, a, d, h1, h2, h3, _⟩ := h.m k hk
   simp [mgC, pmC, toM, h1, h2, h3, exO],
  ziw (l := ts) (g := ptC) (t := toT) fun k hk => by
   obtain ⟨e, he, _⟩ := h.t k hk
   simp [tgC, ptC, toT, he, exO],
  ziw (l := qs) (g := pqC) (t := toQ) fun k hk => by
   obtain ⟨e, d, h1, h2, _⟩ := h.q k hk
   simp [qgC, pqC, toQ, h1, h2, exO]]
theorem ycr (h : MdR rw tw mw rs ms ts qs) {i : Nat} (hi : i < rs.length) : Fit (ctG rw tw mw) true (toR (nth rs i)).w (if i = 0 then 128 else 32) (toR (nth rs i)).next := by
 obtain ⟨e, he, hf⟩ := h.r i hi
 unfold toR
 rw [he]; exact hf
theorem ycs (h : MdR rw tw mw rs ms ts qs) {i : Nat} (hi : i < ts.length) : Fit (ctG rw tw mw) false 1 32 (toT (nth ts i)).wh := by
 obtain ⟨e, he, hf⟩ := h.t i hi
 unfold toT
 rw [he]; exact hf
theorem jsx (h : MdR rw tw mw rs ms ts qs) {i : Nat} (hi : i < qs.length) : Fit (ctG rw tw mw) true 1 32 (toQ (nth qs i)).wh ∧ Fit (ctG rw tw mw) true (toQ (nth qs i)).w 32 (toQ (nth qs i)).da := by
 obtain ⟨e, d, h1, h2, h3, h4⟩ := h.q i hi
 unfold toQ
 rw [h1, h2]; exact ⟨h3, h4⟩
theorem jsy (h : MdR rw tw mw rs ms ts qs) {i : Nat} (hi : i < ms.length) : Fit (ctG rw tw mw) true 1 32 (toM (nth ms i)).en ∧ (WT (ctG rw tw mw) true (toM (nth ms i)).ad ∧ za0 (ctG rw tw mw) (toM (nth ms i)).ad = 0) ∧ Fit (ctG rw tw mw) true (toM (nth ms i)).w 32 (toM (nth ms i)).da := by
 obtain ⟨e, a, d, h1, h2, h3, h4, h5, h6, h7⟩ := h.m i hi
 unfold toM
 rw [h1, h2, h3]; exact ⟨h4, ⟨h5, h6⟩, h7⟩
theorem jqo (h : MdR rw tw mw rs ms ts qs) : 1 ≤ rs.length ∧ rs.length ≤ 3 ∧ ts.length ≤ 2 ∧ qs.length ≤ 2 ∧ ms.length ≤ 1 := by
 have e1 := congrArg List.length h.rl; have e2 := congrArg List.length h.tl; have e3 := congrArg List.length h.ml
 simp only [List.length_map] at e1 e2 e3
 have := h.wd.r1; have := h.wd.r3; have := h.wd.t2; have := h.wd.m1; have := h.q2
 omega
theorem jxc (h : MdR rw tw mw rs ms ts qs) {i : Nat} (hi : i < rs.length) : 1 ≤ (nth rs i).w ∧ (nth rs i).w ≤ 3 := by
 have := zt5 h.rl hi
 rw [← this.2]; exact h.wd.r _ (zb3 this.1)
theorem jxd (h : MdR rw tw mw rs ms ts qs) {i : Nat} (hi : i < ts.length) : 1 ≤ (nth ts i).w ∧ (nth ts i).w ≤ 2 := by
 have := zt5 h.tl hi
 rw [← this.2]; exact h.wd.t _ (zb3 this.1)
theorem yct (h : MdR rw tw mw rs ms ts qs) {i : Nat} (hi : i < ms.length) : 1 ≤ (nth ms i).w ∧ (nth ms i).w ≤ 2 ∧ ((nth ms i).words = 1 ∨ (nth ms i).words = 2 ∨ (nth ms i).words = 4) := by
 have h1 : i < mw.length ∧ nth mw i = ((nth ms i).words, (nth ms i).w) := by rw [← h.ml]; exact ⟨by simpa using hi, zkd hi⟩
 have := h.wd.m _ (zb3 h1.1)
 rw [h1.2] at this
 exact ⟨this.2.1, this.2.2, this.1⟩
structure Bd (p : Pr) : Prop where
 t : ∀ i, i < p.takes.length → za0 (ctP p) (nth p.takes i).wh ≤ 32 ∧ (nth p.takes i).w ≤ 2
 q : ∀ i, i < p.puts.length → za0 (ctP p) (nth p.puts i).wh ≤ 32 ∧ za0 (ctP p) (nth p.puts i).da ≤ 32 ∧ (nth p.puts i).w ≤ 2
 r : ∀ i, i < p.regs.length → za0 (ctP p) (nth p.regs i).next ≤ (if i = 0 then 128 else 32) ∧ (nth p.regs i).w ≤ 3
 m : ∀ i, i < p.mems.length → za0 (ctP p) (nth p.mems i).en ≤ 32 ∧ za0 (ctP p) (nth p.mems i).ad = 0 ∧ za0 (ctP p) (nth p.mems i).da ≤ 32
theorem yfi {p : Pr} (h : Bd p) : ∀ k, k ≤ p.takes.length → cTP p k ≤ 34 * k
 | 0, _ => by simp [cTP]
 | k + 1, hk => by have := yfi h k (by omega); have := h.t k (by omega); rw [cTP]; omega
theorem ycu {p : Pr} (h : Bd p) : ∀ k, k ≤ p.puts.length → cQP p k ≤ 34 * p.takes.length + 32 * k
 | 0, _ => by have := yfi h _ (Nat.le_refl _); rw [cQP]; omega
 | k + 1, hk => by have := ycu h k (by omega); have := h.q k (by omega); rw [cQP]; omega
theorem yfj {p : Pr} (h : Bd p) : ∀ k, k ≤ p.regs.length → cRP p k ≤ 37 * p.takes.length + 35 * p.puts.length + 38 * k + 96
 | 0, _ => by have := ycu h _ (Nat.le_refl _); rw [cRP]; omega
 | k + 1, hk => by
  have := yfj h k (by omega); have h2 := h.r k (by omega); rw [cRP]
  by_cases e : k = 0
  ·subst e
   have := ycu h _ (Nat.le_refl _)
   rw [if_pos rfl] at h2; rw [cRP]; omega
  ·rw [if_neg e] at h2; omega
theorem yfk {p : Pr} (h : Bd p) : ∀ k, k ≤ p.puts.length → cUP p k ≤ 38 * p.takes.length + 35 * p.puts.length + 38 * p.regs.length + 96 + 35 * k
 | 0, _ => by have := yfj h _ (Nat.le_refl _); rw [cUP]; omega
 | k + 1, hk => by have := yfk h k (by omega); have := h.q k (by omega); rw [cUP]; omega
theorem yfl {p : Pr} (h : Bd p) : ∀ k, k ≤ p.mems.length → cMP p k ≤ 38 * p.takes.length + 70 * p.puts.length + 38 * p.regs.length + 96 + 65 * k
 | 0, _ => by have := yfk h _ (Nat.le_refl _); rw [cMP]; omega
 | k + 1, hk => by have := yfl h k (by omega); have := h.m k (by omega); rw [cMP]; omega
theorem yfm {p : Pr} (h : Bd p) : ∀ k, k ≤ p.regs.length → (zfe p k).length ≤ 3 * k
 | 0, _ => by simp [zfe]
 | k + 1, hk => by have := yfm h k (by omega); have := h.r k (by omega); rw [zfe, List.length_append, zaz]; omega
theorem yfn {p : Pr} (h : Bd p) : ∀ k, k ≤ p.takes.length → (ze3 p k).length ≤ 3 * p.regs.length + 3 * k
 | 0, _ => by have := yfm h _ (Nat.le_refl _); rw [ze3]; omega
 | k + 1, hk => by have := yfn h k (by omega); have := h.t k (by omega); rw [ze3, List.length_append, List.length_append, zaz, zaz]; omega
theorem yfo {p : Pr} (h : Bd p) : ∀ k, k ≤ p.puts.length → (zfz p k).length ≤ 3 * p.regs.length + 3 * p.takes.length + k
 | 0, _ => by have := yfn h _ (Nat.le_refl _); rw [zfz]; omega
 | k + 1, hk => by have := yfo h k (by omega); rw [zfz, List.length_append, zaz]; omega
theorem ycv (h : MdR rw tw mw rs ms ts qs) : Bd (mdP rs ms ts qs) := by
 refine ⟨fun i hi => ?_, fun i hi => ?_, fun i hi => ?_, fun i hi => ?_⟩ <;> rw [jqn h] <;> simp only [mdP, List.length_map] at hi ⊢ <;> rw [zkd hi]
 ·exact ⟨(ycs h hi).n, (jxd h hi).2⟩
 ·exact ⟨(jsx h hi).1.n, (jsx h hi).2.n, (h.qw i hi).2⟩
 ·exact ⟨(ycr h hi).n, (jxc h hi).2⟩
 ·have := jsy h hi
  exact ⟨this.1.n, this.2.1.2, this.2.2.n⟩
theorem jqp (h : MdR rw tw mw rs ms ts qs) : Proc (mdP rs ms ts qs) := by
 obtain ⟨l1, l2, l3, l4, l5⟩ := jqo h
 have hb := ycv h
 have hc : zgz (mdP rs ms ts qs) ≤ 491 := by
  have := yfl hb _ (Nat.le_refl _)
  unfold zgz
  simp only [mdP, List.length_map] at this ⊢
  omega
 refine ⟨⟨by rw [jqn h]; exact h.wd.ct, fun i hi => ?_, fun i hi => ?_, fun i hi => ?_, fun i hi => ?_, fun i hi => ?_, fun i hi => ?_, fun i hi => ?_, fun i hi => ?_, ?_, ?_, ?_, by omega⟩, hc, ?_, ?_, ?_, ?_, ?_, ?_, fun i hi => ?_, fun i hi => ?_, fun i hi => ?_, fun i hi => ?_, fun i hi => ?_, fun i hi => ?_⟩
 any_goals rw [jqn h]
 any_goals (simp only [mdP, List.length_map] at hi ⊢; rw [zkd hi])
 any_goals (simp only [mdP, List.length_map]; omega)
 ·exact ⟨(ycs h hi).t, (ycs h hi).w⟩
 ·exact ⟨(ycr h hi).t, (ycr h hi).w⟩
 ·exact ⟨(jsx h hi).1.t, (jsx h hi).1.w⟩
 ·exact ⟨(jsx h hi).2.t, (jsx h hi).2.w⟩
 ·have := h.qw i hi
  exact ⟨this.1, by show (nth qs i).w ≤ 8; omega⟩
 ·exact ⟨(jsy h hi).1.t, (jsy h hi).1.w⟩
 ·exact (jsy h hi).2.1.1
 ·exact ⟨(jsy h hi).2.2.t, (jsy h hi).2.2.w⟩
 ·have := yfo hb _ (Nat.le_refl _)
  unfold zfi
  simp only [mdP, List.length_map] at this ⊢
  omega
 ·exact jxc h hi
 ·exact jxd h hi
 ·exact h.qw i hi
 ·exact yct h hi
 ·exact h.nr _ (List.mem_map.2 ⟨_, zb3 hi, rfl⟩)
 ·exact h.nm _ (List.mem_map.2 ⟨_, zb3 hi, rfl⟩)
end
theorem zwb {P : Program} {f : FuncId} {ds : List D} {Q Q' : AV → Prop} (h : zf4 P f ds Q) (hq : ∀ r, Q r → Q' r) : zf4 P f ds Q' :=
 ⟨h.1, fun w O vals h1 h2 h3 => (h.2 w O vals h1 h2 h3).mono fun e w' ⟨v, r, he, hr, h4, h5⟩ => ⟨v, r, he, hq r hr, h4, h5⟩⟩
theorem zrm (b : List Int) (hb : zg6 b) (hl : b.length ≤ maxLen) : zf4 Try.prog 28 [.agg [bytesD b]] fun r => ∃ p, Proc p ∧ r = .d (zbq p) :=
 zwb (jqm b hb hl) fun r ⟨rw, tw, mw, rs, ms, ts, qs, h, e⟩ => ⟨_, jqp h, by rw [e, jke h]; rfl⟩
/- The reference's builder: the bits of an expression. -/
set_option maxRecDepth 100000
set_option maxHeartbeats 4000000
end
theorem yhb : (type_of% @zzw) := @zzw
/-! ### Arguments -/
def zbk : Ex → List Ex
  | .con _ _ => []
  | .reg _ => []
  | .dat _ => []
  | .not a => [a]
  | .two _ a b => [a, b]
  | .add a b => [a, b]
  | .sub a b => [a, b]
  | .eq a b => [a, b]
  | .lt a b => [a, b]
  | .mux a b c => [a, b, c]
  | .cat a b => [a, b]
  | .slc _ _ a => [a]
  | .ext _ a => [a]
  | .rd _ a => [a]
def zdg : Ex → Int
  | .con _ _ => 1
  | .reg _ => 16
  | .dat _ => 18
  | .not _ => 2
  | .two o _ _ => o
  | .add _ _ => 6
  | .sub _ _ => 7
  | .eq _ _ => 8
  | .lt _ _ => 9
  | .mux _ _ _ => 10
  | .cat _ _ => 11
  | .slc _ _ _ => 12
  | .ext _ _ => 13
  | .rd _ _ => 17
def kEx : Ex → Int
  | .con v _ => v
  | .reg i => i
  | .dat i => i
  | .slc k _ _ => k
  | .rd k _ => k
  | _ => 0
def wEx : Ex → Int
  | .con _ w => w
  | .slc _ w _ => w
  | .ext w _ => w
  | _ => 0
def exS (e : Ex) : List D := exR (zdg e) (kEx e) (wEx e) ((zbk e).flatMap exC) (zbk e).length
theorem zho (e : Ex) : exC e = exS e := by
  cases e <;> simp [exC, zbk, zdg, kEx, wEx, exS]
theorem zce {c : Ct} {q : Bool} {e : Ex} (h : WT c q e) : ∀ k, k < (zbk e).length → WT c q (nth (zbk e) k) := by
  intro k hk
  cases e with
  | con v w => simp [zbk] at hk
  | reg i => simp [zbk] at hk
  | dat i => simp [zbk] at hk
  | not a => obtain rfl : k = 0 := by simpa [zbk] using hk
             exact h
  | slc i w a => obtain rfl : k = 0 := by simpa [zbk] using hk
                 exact h.1
  | ext w a => obtain rfl : k = 0 := by simpa [zbk] using hk
               exact h.1
  | rd i a => obtain rfl : k = 0 := by simpa [zbk] using hk
              exact h.1
  | mux a b d =>
    rcases (show k = 0 ∨ k = 1 ∨ k = 2 by simp [zbk] at hk; omega) with rfl | rfl | rfl
    · exact h.1
    · exact h.2.1
    · exact h.2.2.1
  | two o a b =>
    rcases (show k = 0 ∨ k = 1 by simp [zbk] at hk; omega) with rfl | rfl
    · exact h.2.1
    · exact h.2.2.1
  | _ a b =>
    rcases (show k = 0 ∨ k = 1 by simp [zbk] at hk; omega) with rfl | rfl
    · exact h.1
    · exact h.2.1
def zld (c : Ct) (l : List Ex) : Nat → Nat
  | 0 => 0
  | k + 1 => zld c l k + za0 c (nth l k)
theorem jac {c : Ct} {l : List Ex} : ∀ {k n : Nat}, k ≤ n → zld c l k ≤ zld c l n
  | k, 0, h => by have : k = 0 := by omega
                  subst this; exact Nat.le_refl _
  | k, n + 1, h => by
    by_cases e : k = n + 1
    · subst e; exact Nat.le_refl _
    · have := jac (c := c) (l := l) (show k ≤ n by omega)
      rw [zld]; omega
theorem jkf {c : Ct} {e : Ex} : zld c (zbk e) (zbk e).length ≤ za0 c e := by
  cases e <;> simp [zbk, zld, za0, nth] <;> omega
def joi (f : Gs → Ex → Gs × List Int) (gs : Gs) (l : List Ex) : Nat → Gs × List (List Int)
  | 0 => (gs, [])
  | k + 1 => let s := joi f gs l k; let r := f s.1 (nth l k); (r.1, s.2 ++ [r.2])
structure ArgOk (c : Ct) (m : Nat) (gs : Gs) (l : List Ex) (k : Nat) (s : Gs × List (List Int)) : Prop where
  pre : gs <+: s.1
  gi : GI m s.1
  len : s.1.length ≤ gs.length + zld c l k
  ln : s.2.length = k
  wid : ∀ j, j < k → (nth s.2 j).length = zb4 c (nth l j)
  nd : ∀ j, j < k → ∀ i, i < zb4 c (nth l j) → NdB m s.1 (nth (nth s.2 j) i)
theorem joj {c : Ct} {q : Bool} {inp : Int → Nat → Nat → Int} {m : Nat} {data : List (List Int)} {gs : Gs} {l : List Ex} (h2 : 2 ≤ m) (hc : CtOk c) (hi : InOk c inp m) (hg : GI m gs) (hd : DaOk c q m gs data) (hw : ∀ k, k < l.length → WT c q (nth l k)) :
    ∀ k, k ≤ l.length → ArgOk c m gs l k (joi (zbz c inp m data) gs l k)
  | 0, _ => ⟨List.prefix_refl _, hg, by simp [joi], rfl, fun j hj => by omega, fun j hj => by omega⟩
  | k + 1, hk => by
    have ih := joj h2 hc hi hg hd hw k (by omega)
    rw [joi]
    generalize joi (zbz c inp m data) gs l k = s at *
    have hb := zv0 (q := q) h2 hc hi (nth l k) ih.gi (hd.pre ih.pre) (hw k (by omega))
    refine ⟨ih.pre.trans hb.pre, hb.gi, ?_, by simp [ih.ln], fun j hj => ?_, fun j hj i hi => ?_⟩
    · have h1 := ih.len; have h3 := hb.len
      rw [zld]; simp only; omega
    · rcases zgk (x := (zbz c inp m data s.1 (nth l k)).2) ih.ln hj with ⟨hl, e⟩ | ⟨hl, e⟩
      · simp only; rw [e]; exact ih.wid j hl
      · simp only; rw [e, hl]; exact hb.wid
    · rcases zgk (x := (zbz c inp m data s.1 (nth l k)).2) ih.ln hj with ⟨hl, e⟩ | ⟨hl, e⟩
      · simp only; rw [e]; exact (ih.nd j hl i hi).pre hb.pre
      · simp only; rw [e]; subst hl; exact hb.nd i hi
theorem zcx {c : Ct} {q : Bool} {e : Ex} (h : WT c q e) : (∃ v w, e = .con v w) ∨ (∃ i, e = .reg i) ∨ (∃ i, e = .dat i) ∨ (∃ a, e = .not a) ∨ (∃ a b, e = .two 3 a b) ∨ (∃ a b, e = .two 4 a b) ∨ (∃ a b, e = .two 5 a b) ∨ (∃ a b, e = .add a b) ∨ (∃ a b, e = .sub a b) ∨ (∃ a b, e = .eq a b) ∨ (∃ a b, e = .lt a b) ∨ (∃ a b d, e = .mux a b d) ∨ (∃ a b, e = .cat a b) ∨ (∃ k w a, e = .slc k w a) ∨ (∃ w a, e = .ext w a) ∨ ∃ k a, e = .rd k a := by
  cases e with
  | two o a b =>
    rcases h.1 with rfl | rfl | rfl <;> simp
  | _ => simp
theorem ycw {v k : Nat} (hv : v < 2 ^ 62) (hk : k < 64) : jtl .and .i64 ((v : Int).fdiv (2 ^ min k 64)) 1 = ((v / 2 ^ k % 2 : Nat) : Int) := by
  rw [Nat.min_eq_left (by omega)]
  have e2 : (v : Int).fdiv (2 ^ k) = ((v / 2 ^ k : Nat) : Int) := by
    rw [Int.fdiv_eq_ediv_of_nonneg _ (by have : (0 : Int) < 2 ^ k := Int.pow_pos (by decide); omega)]
    push_cast; rfl
  rw [e2]
  show IntKind.i64.wrap ((BitVec.ofInt 64 ((v / 2 ^ k : Nat) : Int) &&& BitVec.ofInt 64 1).toNat : Int) = _
  have : (BitVec.ofInt 64 ((v / 2 ^ k : Nat) : Int) &&& BitVec.ofInt 64 1).toNat = (v / 2 ^ k) % 2 := by
    rw [BitVec.toNat_and]
    have h1 : (BitVec.ofInt 64 1).toNat = 1 := by decide
    have h2 : (BitVec.ofInt 64 ((v / 2 ^ k : Nat) : Int)).toNat = v / 2 ^ k := by
      have hu : v / 2 ^ k ≤ v := Nat.div_le_self _ _
      rw [BitVec.toNat_ofInt]
      generalize v / 2 ^ k = u at hu ⊢
      omega
    rw [h1, h2, Nat.and_one_is_mod]
  rw [this]
  exact jjh (by omega) (by omega)
theorem jgr {e : Ex} {k : Nat} (hk : k < (zbk e).length) : SizeOf.sizeOf (nth (zbk e) k) < SizeOf.sizeOf e := by
  have hm := zb3 hk
  generalize nth (zbk e) k = x at hm
  cases e <;> simp only [zbk, List.mem_cons, List.not_mem_nil, or_false] at hm <;> (first | (rcases hm with rfl | rfl | rfl) | (rcases hm with rfl | rfl) | (rcases hm with rfl) | cases hm) <;> simp only [Ex.not.sizeOf_spec, Ex.two.sizeOf_spec, Ex.add.sizeOf_spec, Ex.sub.sizeOf_spec, Ex.eq.sizeOf_spec, Ex.lt.sizeOf_spec, Ex.mux.sizeOf_spec, Ex.cat.sizeOf_spec, Ex.slc.sizeOf_spec, Ex.ext.sizeOf_spec, Ex.rd.sizeOf_spec] <;> omega
theorem yhc {l : List PMem} {k : Nat} (h : k < l.length) : (l.flatMap pmC)[k * 27 + 1]? = some (iD (nth l k).w) := (zci (j := 1) zt7 h (by omega)).trans rfl
theorem yhd {l : List PMem} {k : Nat} (h : k < l.length) : (l.flatMap pmC)[k * 27 + 2]? = some (iD (nth l k).words) := (zci (j := 2) zt7 h (by omega)).trans rfl
theorem ycx {l : List PReg} {k : Nat} (h : k < l.length) : (l.flatMap prC)[k * 13 + 1]? = some (iD (nth l k).w) := (zci (j := 1) zrl h (by omega)).trans rfl
/- netlist's builder: its state as own objects. -/
section
section
variable {P : Program} {fn : Func} {Q : AV → zae → Prop} {τ : Fr} {H : zae}
theorem zle (h : fn.results.toList = []) (hq : Q (.tup []) H) : zfm P fn Q .normal τ H := by
 show zpz P τ H fn.results.toList _
 rw [h]; exact hq
theorem zl1 {l : List ResultVar} (h : fn.results.toList = l) (hq : zpz P τ H l fun xs => Q (retV xs) H) : zfm P fn Q .ret τ H := by
 show zpz P τ H fn.results.toList _
 rw [h]; exact hq
theorem zmk {t : Tmp} {l : List ResultVar} {K : List AV → Prop} (h : zpz P τ H l fun xs => K (τ t :: xs)) : zpz P τ H (.tmp t :: l) K := h
theorem jxe {t : Tmp} {ty : TypeId} {l : List ResultVar} {K : List AV → Prop} (h : oK (loadF P H.length H ty (τ t)) (tg fun x => zpz P τ H l fun xs => K (x :: xs))) : zpz P τ H (.cell t ty :: l) K := by
 obtain ⟨x, h1, h2⟩ := h
 exact ⟨x, zf6 h1, h2⟩
theorem jqq {c : Cx} {code : Code} {QQ : Exit → Fr → zae → Prop} {x y z u v w : AV} (h : AWp P c code QQ (frL [(0, x), (1, y), (2, z), (3, u), (4, v), (5, w)]) H) : AWp P c code QQ (zfd [x, y, z, u, v, w]) H := za9 (zao (zao (zao (zao (zao (zao (zas _) rfl) rfl) rfl) rfl) rfl) rfl) h
theorem zn1 {c : Cx} {m : List Nat} {x : Code} {Q : Exit → Fr → zae → Prop} (hp : Kp c m) (h : AWp P c x (fun e τ' H' => ∃ τ1 H1, Rt m τ' H' τ1 H1 ∧ Q e τ1 H1) τ H) : AWp P c x Q τ H := fun a w hR =>
 wpIn_mono (h a w hR) fun _ _ _ ⟨τ', H', h1, τ1, H1, h2, h3⟩ => ⟨τ1, H1, h2 _ _ _ hp h1, h3⟩
end
abbrev tGm : TypeId := 193
abbrev tWm : TypeId := 194
theorem yfp : mtB Try.prog KT tGm = some (.int .i64 0) := by kernel_rfl
theorem ya0 : mtB Try.prog KT tWm = some (.int .i64 0) := by kernel_rfl
theorem jok {g : Gate} : zo7 (gV g) = true := rfl
theorem jol {g : Wire} : zo7 (wV g) = true := rfl
structure NdM (m : Nat) (gs : Gs) (μ : Mp) : Prop where
 ok : OkM Try.prog tGm μ
 gt : ∀ g, zr9 (gV g) μ = if g ∈ gs then some (.int .i64 ((m + zvx g gs : Nat) : Int)) else none
theorem NdM.nil (m : Nat) : NdM m [] ([], 0) := ⟨OkM.nil _ _, fun g => by simp; rfl⟩
theorem NdM.add {m : Nat} {gs : Gs} {μ : Mp} (h : NdM m gs μ) {g : Gate} (hk : zsa Try.prog tGm (gV g)) (hn : ¬ g ∈ gs) : NdM m (gs ++ [g]) (zyi (gV g) (.int .i64 ((m + gs.length : Nat) : Int)) μ) := by
 classical
 refine ⟨h.ok.put hk, fun x => ?_⟩
 rw [zk0 jok jok, h.gt x]
 by_cases e : x = g
 ·subst e; rw [if_pos rfl, if_pos (by simp), zrd hn]
 ·rw [if_neg fun e' => e (jv7 e')]
  by_cases hx : x ∈ gs
  ·rw [if_pos hx, if_pos (by simp [hx]), znz hx]
  ·rw [if_neg hx, if_neg (by simp [hx, e])]
structure InM (ins : List Wire) (μ : Mp) : Prop where
 ok : OkM Try.prog tWm μ
 gt : ∀ w, zr9 (wV w) μ = if w ∈ ins then some (.int .i64 ((2 + zo8 w ins : Nat) : Int)) else none
theorem InM.nil : InM [] ([], 0) := ⟨OkM.nil _ _, fun g => by simp; rfl⟩
theorem jad {g : Wire} : ∀ {l : List Wire}, ¬ g ∈ l → zo8 g (l ++ [g]) = l.length
 | [], _ => by simp [zo8]
 | x :: l, h => by
  rw [List.cons_append, zo8, if_neg (fun e => h (by simp [e])), jad (fun h' => h (List.mem_cons_of_mem _ h'))]; rfl
theorem InM.add {ins : List Wire} {μ : Mp} (h : InM ins μ) {w : Wire} (hk : zsa Try.prog tWm (wV w)) (hn : ¬ w ∈ ins) : InM (ins ++ [w]) (zyi (wV w) (.int .i64 ((2 + ins.length : Nat) : Int)) μ) := by
 classical
 refine ⟨h.ok.put hk, fun x => ?_⟩
 rw [zk0 jol jol, h.gt x]
 by_cases e : x = w
 ·subst e; rw [if_pos rfl, if_pos (by simp), jad hn]
 ·rw [if_neg fun e' => e (jv6 e')]
  by_cases hx : x ∈ ins
  ·rw [if_pos hx, if_pos (by simp [hx]), zz5 hx]
  ·rw [if_neg hx, if_neg (by simp [hx, e])]
structure G64 (g : Gate) : Prop where
 o : I64 g.op
 a : I64 g.a
 b : I64 g.b
 c : I64 g.c
 n : I64 g.n
theorem jxf {g : Gate} (h : G64 g) : zsa Try.prog tGm (gV g) := jv8 h.o h.a h.b h.c h.n
structure BE where
 p : Pr
 ins : List Wire
 mi : Mp
 out : List Wire
 dr : List Int
 dat : List (List Int)
def bO (e : BE) (k : Nat) : AObj := .cells [.os 3 1 0 e.ins.length, .os 5 2 0 k, .os 3 3 0 e.out.length, .os 1 4 0 e.dr.length,
 .d (sD e.p.name), .d (sD e.p.clock), .d (.fs (e.p.regs.flatMap prC) e.p.regs.length), .d (.fs (e.p.mems.flatMap pmC) e.p.mems.length), .d (.fs (e.p.takes.flatMap ptC) e.p.takes.length), .d (.fs (e.p.puts.flatMap pqC) e.p.puts.length), .om 5, .om 6, .os 1 7 0 e.dat.length]
def bH (e : BE) (gs : Gs) (μ : Mp) : zae := [bO e gs.length, .cells (avs (e.ins.flatMap za2)), .cells (avs (gs.flatMap zav)), .cells (avs (e.out.flatMap za2)), .cells (avs (e.dr.map iD)), mO μ, mO e.mi, .cells (avs (e.dat.map intsD))]
def mE2 (e : BE) : Nat := 2 + e.ins.length
def jkg (e : BE) (r : Re) (x : AV) (S' : zae) : Prop := ∃ μ, NdM (mE2 e) r.1 μ ∧ x = .d (iD r.2) ∧ S' = bH e r.1 μ
def jxg (e : BE) (r : Gs × List Int) (x : AV) (S' : zae) : Prop := ∃ μ, NdM (mE2 e) r.1 μ ∧ x = .d (intsD r.2) ∧ S' = bH e r.1 μ
structure BOk (e : BE) (gs : Gs) (μ : Mp) : Prop where
 n : NdM (mE2 e) gs μ
 g : GI (mE2 e) gs
 i : e.ins.length ≤ 1000
 l : gs.length ≤ 100000
/- netlist's builder: gates, operands, complements. -/
end
theorem jkh : ((((type_of% @zmx) ∧ ((type_of% @zmy) ∧ (type_of% @zzy))) ∧ (((type_of% @jns) ∧ (type_of% @jnt)) ∧ ((type_of% @zgg) ∧ (type_of% @zcq)))) ∧ ((((type_of% @zf0) ∧ (type_of% @zf1)) ∧ ((type_of% @zg7) ∧ (type_of% @zc7))) ∧ (((type_of% @zh0) ∧ (type_of% @zh1)) ∧ ((type_of% @zh2) ∧ (type_of% @jbo))))) := ⟨⟨⟨@zmx, ⟨@zmy, @zzy⟩⟩, ⟨⟨@jns, @jnt⟩, ⟨@zgg, @zcq⟩⟩⟩, ⟨⟨⟨@zf0, @zf1⟩, ⟨@zg7, @zc7⟩⟩, ⟨⟨@zh0, @zh1⟩, ⟨@zh2, @jbo⟩⟩⟩⟩
theorem jgs {a b c d e : Int} : Value.agg #[.int .i64 a, .int .i64 b, .int .i64 c, .int .i64 d, .int .i64 e] = gV ⟨a, b, c, d, e⟩ := rfl
theorem jxh {p q : Prop} (hq : q) (h : p = q := by
 conv => lhs; simp -dsimp -implicitDefEqProofs (disch := first | assumption | omega | (simp only [r_z, zab, zac] <;> omega) | decide) only [r_r, ↓reduceIte, Nat.reduceEqDiff, Nat.reduceAdd, D.fix, Int.reduceToNat, Nat.reduceMul, Nat.reduceBNe, Nat.reduceBEq, r_m, bO, zar, zav, jkh]) : p := h.mpr hq
theorem jxi {p q r : Prop} (e : r) (hq : q) (h : r → p = q := by
 intro hY
 conv => lhs; simp -dsimp -implicitDefEqProofs (disch := first | assumption | omega | (simp only [r_z, zab, zac] <;> omega) | decide) only [r_r, ↓reduceIte, Nat.reduceEqDiff, Nat.reduceAdd, D.fix, Int.reduceToNat, Nat.reduceMul, Nat.reduceBNe, Nat.reduceBEq, r_m, bO, zar, zav, jgs, ztn, jvi yfp hkey hn.ok, Option.getD_some, Option.getD_none, Option.isSome_some, Option.isSome_none, jkh, hY]) : p := (h e).mpr hq
theorem jki {p q : Prop} (hq : q) (h : p = q := by
 conv => lhs; simp -dsimp -implicitDefEqProofs (disch := first | assumption | omega | (simp only [r_z, zab, zac] <;> omega) | decide) only [r_r, ↓reduceIte, Nat.reduceEqDiff, Nat.reduceAdd, D.fix, Int.reduceToNat, Nat.reduceMul, Nat.reduceBNe, Nat.reduceBEq, r_m, bO, zar, zav]) : p := h.mpr hq
theorem yfq {m : List Nat} {τ τ' : Fr} {H H' : zae} (h2 : H = H') (h : zfq τ τ' := by
 repeat (first | exact zas _ | refine zao ?_ (by first | rfl | (simp [r_f, zab, zac]; done) | simp [r_f, zab, zac, *]))) : Rt m τ H τ' H' := Rt.end h h2
theorem zki (e : BE) (gs : Gs) (μ : Mp) (g : Gate) (hn : NdM (mE2 e) gs μ) (hk : G64 g) (hi : e.ins.length ≤ 1000) (hl : gs.length ≤ 100000) : ScS Try.prog [0, 1, 3, 4, 5, 6, 7] 135 [.op 0 0, .agg ((zav g).map .d)] (bH e gs μ) (jkg e (zct (mE2 e) gs g)) := by
 refine zbh (fn := Try.f135) (by kernel_rfl) Try.func135 rfl (Nat.le_of_ble_eq_true rfl) fun c hc hp => ?_
 refine zc1 ?_
 unfold bH
 have hkey : zsa Try.prog tGm (gV ⟨g.op, g.a, g.b, g.c, g.n⟩) := jxf hk
 refine szq hp (fun _ hZ => jxh hZ) ?_
 refine zaa fun K2 hK2 => ?_
 refine za5 zak hc mixed rfl (q := 0) (by kernel_rfl) (by kernel_rfl) fun K3 hK3 => ?_
 by_cases hg : (g ∈ gs)
 ·have hgm : zr9 (gV ⟨g.op, g.a, g.b, g.c, g.n⟩) μ = some (.int .i64 ((mE2 e + zvx g gs : Nat) : Int)) := by have := hn.gt g; rw [if_pos hg] at this; exact this
  refine jxi hgm ?_
  refine hK3 _ _ ?_
  refine szq hp (fun _ hZ => jki hZ) ?_
  refine szt ?_
  refine szq hp (fun _ hZ => jki hZ) ?_
  refine zat hp (τ' := frL [(4, .d (iD ((mE2 e + zvx g gs : Nat) : Int)))]) (H' := bH e gs μ) ?_ ?_
  ·refine Rt.trans (Rt.gc (keep := [0,1,2,3,4,5,6,7]) (by decide) (by decide) (by simp [fzH, gcH])) ?_
   refine yfq ?_
   first | rfl | (simp only [r_g, Nat.reduceAdd, ↓reduceIte, Nat.reduceEqDiff, r_m, bO, zar, zav]; first | done | rfl)
  refine zam ?_
  refine zap (t := 4) rfl ?_
  show ∃ _, _
  refine ⟨μ, ?_, ?_, ?_⟩
  ·unfold zct; rw [if_pos hg]; exact hn
  ·unfold zct; rw [if_pos hg]; rfl
  ·unfold zct; rw [if_pos hg]
 ·have hgm : zr9 (gV ⟨g.op, g.a, g.b, g.c, g.n⟩) μ = none := by have := hn.gt g; rw [if_neg hg] at this; exact this
  refine jxi hgm ?_
  refine hK3 _ _ ?_
  refine szq hp (fun _ hZ => jki hZ) ?_
  refine szf ?_
  refine zaj (hK2 _ _ ?_)
  refine za5 zak hc mixed rfl (q := 0) (by kernel_rfl) (by kernel_rfl) fun K7 hK7 => ?_
  refine jxh ?_
  refine hK7 _ _ ?_
  refine za6 zak hp hc mixed rfl [(0, []), (1, []), (2, []), (3, []), (4, []), (5, []), (6, []), (7, []), (8, []), (9, []), (10, []), (11, []), (12, [])] [[], [], [1], [1, 2], [1, 2, 3], [1, 2, 3, 4], [], [6], [1, 2, 3, 4, 5, 6, 7], [0, 1, 2, 3, 4, 5, 6, 7, 8], [0, 1, 2, 3, 4, 5, 6, 7, 8, 9], [0, 1, 2, 3, 4, 5, 6, 7, 8, 9, 10], [0, 1, 2, 3, 4, 5, 6, 7, 8, 9, 10, 11]] 1 (by kernel_rfl) fun K8 hK8 => ?_
  simp -dsimp -implicitDefEqProofs (disch := first | assumption | omega | (simp only [r_z, zab, zac] <;> omega) | decide) only [r_r, ↓reduceIte, Nat.reduceEqDiff, Nat.reduceAdd, D.fix, Int.reduceToNat, Nat.reduceMul, Nat.reduceBNe, Nat.reduceBEq, r_w, r_m, bO, zar, zav, jkh]
  refine hK8 _ _ ?_
  refine za6 zak hp hc mixed rfl [(0, []), (1, []), (2, []), (3, []), (4, []), (5, []), (6, [])] [[], [0], [0, 1], [0, 1, 2], [], [], [0, 1, 2, 3, 4, 5]] 0 (by kernel_rfl) fun K9 hK9 => ?_
  simp -dsimp -implicitDefEqProofs (disch := first | assumption | omega | (simp only [r_z, zab, zac] <;> omega) | decide) only [r_r, ↓reduceIte, Nat.reduceEqDiff, Nat.reduceAdd, D.fix, Int.reduceToNat, Nat.reduceMul, Nat.reduceBNe, Nat.reduceBEq, r_w, r_m, bO, zar, zav, jgs, jfh yfp hkey hn.ok, jkh]
  refine hK9 _ _ ?_
  refine szq hp (fun _ hZ => jki hZ) ?_
  refine zat hp (τ' := frL [(4, .d (iD (2 + (e.ins.length : Int) + gs.length)))]) (H' := bH e (gs ++ [g]) (zyi (gV ⟨g.op, g.a, g.b, g.c, g.n⟩) (.int .i64 (2 + (e.ins.length : Int) + gs.length)) μ)) ?_ ?_
  ·refine Rt.trans (Rt.gc (keep := [0,1,10,3,4,5,6,7]) (by decide) (by decide) (by simp [fzH, gcH])) ?_
   refine yfq ?_
   simp only [r_g, Nat.reduceAdd, ↓reduceIte, Nat.reduceEqDiff, r_m, bO, zar, zav]; simp [bH, bO, zar, zav, iD, avs]
  refine zam ?_
  refine zap (t := 4) rfl ?_
  show ∃ _, _
  have h2 : (2 + (e.ins.length : Int) + gs.length) = ((mE2 e + gs.length : Nat) : Int) := by unfold mE2; omega
  refine ⟨zyi (gV g) (.int .i64 ((mE2 e + gs.length : Nat) : Int)) μ, ?_, ?_, ?_⟩
  ·unfold zct; rw [if_neg hg]; exact hn.add (jxf hk) hg
  ·unfold zct; rw [if_neg hg, h2]; first | done | rfl
  ·unfold zct; rw [if_neg hg, h2]; first | done | rfl
end Go.Proofs.Ytapjobndmmkanaa
