/- Processes that bytes describe: rows that are filled. -/
import Derived.Test.YtapjobndmmkanaaVf
set_option linter.unusedVariables false
set_option linter.unusedSimpArgs false
namespace Go.Proofs.Ytapjobndmmkanaa
open Go Go.RowKit
section
theorem zil : ∀ (xs A B : List AV) (i : Nat), zbt (A ++ B) (A.length + i) xs = A ++ zbt B i xs
 | [], A, B, i => rfl
 | x :: xs, A, B, i => by
  rw [zbt, zbt, List.set_append_right _ _ (by omega), show A.length + i - A.length = i by omega, Nat.add_assoc, zil xs]
theorem zhm : ∀ (xs A B : List AV) (i : Nat), i + xs.length ≤ A.length → zbt (A ++ B) i xs = zbt A i xs ++ B
 | [], A, B, i, _ => rfl
 | x :: xs, A, B, i, h => by
  rw [List.length_cons] at h
  rw [zbt, zbt, List.set_append_left _ _ (by omega), zhm xs _ _ _ (by simp; omega)]
theorem jki {α : Type} [Inhabited α] {l : List α} {k : Nat} (h : k < l.length) : l = l.take k ++ (nth l k :: l.drop (k + 1)) := by
 rw [zek h, List.getElem_cons_drop, List.take_append_drop]
theorem jw4 {α : Type} {l : List α} {k : Nat} {a : α} (h : k < l.length) : l.set k a = l.take k ++ (a :: l.drop (k + 1)) := by
 rw [List.set_eq_take_append_cons_drop, if_pos h]
theorem zdn {α : Type} [Inhabited α] {f : α → List D} {w : Nat} (hw : ∀ a, (f a).length = w) {l : List α} {k off i : Nat} {a : α} {xs : List AV} (hk : k < l.length) (hi : i = k * w + off) (ho : off + xs.length ≤ w) (ha : zbt (avs (f (nth l k))) off xs = avs (f a)) :
  zbt (avs (l.flatMap f)) i xs = avs ((l.set k a).flatMap f) := by
 have e1 : avs (l.flatMap f) = avs ((l.take k).flatMap f) ++ (avs (f (nth l k)) ++ avs ((l.drop (k + 1)).flatMap f)) := by
  conv => lhs; rw [jki hk]
  simp [avs]
 have hl : (avs ((l.take k).flatMap f)).length = k * w := by
  rw [zde, zc1 hw, List.length_take, Nat.min_eq_left (by omega)]
 rw [e1, hi, ← hl, zil, zhm _ _ _ _ (by rw [zde, hw]; exact ho), ha, jw4 hk]
 simp [avs]
theorem jp9 {A B : List D} {e : Ex} {cs : List D} (hc : cs.length = 7) (he : exC e = cs) {z : List D} (hz : z.length = 7) : zbt (avs (A ++ (z ++ B))) A.length (avs cs) = avs (A ++ (exC e ++ B)) := by
 have e1 : avs (A ++ (z ++ B)) = avs A ++ (avs z ++ avs B) := by simp [avs]
 have key : ∀ (z c : List AV), z.length = 7 → c.length = 7 → zbt z 0 c = c := by
  intro z c h1 h2
  match z, h1, c, h2 with
  | [_, _, _, _, _, _, _], _, [_, _, _, _, _, _, _], _ => rfl
 rw [e1]
 have := zil (avs cs) (avs A) (avs z ++ avs B) 0
 rw [zde, Nat.add_zero] at this
 rw [this, zhm _ _ _ _ (by rw [zde, zde]; omega), key _ _ (by rw [zde]; exact hz) (by rw [zde]; exact hc), he]
 simp [avs]
def jg6 (t : TG) (e : Ex) : TG := { t with wh := some e }
def jri (r : RG) (e : Ex) : RG := { r with nx := some e }
def jg7 (q : QG) (e : Ex) : QG := { q with wh := some e }
def jg8 (q : QG) (e : Ex) : QG := { q with da := some e }
def jb5 (m : MG) (e : Ex) : MG := { m with en := some e }
def jb6 (m : MG) (e : Ex) : MG := { m with ad := some e }
def jg9 (m : MG) (e : Ex) : MG := { m with da := some e }
section
variable {e : Ex} {cs : List D} {k i : Nat}
theorem yad {l : List TG} (hk : k < l.length) (hi : i = k * 9 + 2) (hc : cs.length = 7) (he : exC e = cs) : zbt (avs (l.flatMap tgC)) i (avs cs) = avs ((l.set k (jg6 (nth l k) e)).flatMap tgC) :=
 zdn yab hk hi (by rw [zde]; omega) (by have := jp9 (A := [iD (nth l k).chan, iD (nth l k).w]) (B := []) hc he (zik (nth l k).wh); simpa [tgC, jg6, exO] using this)
theorem jw5 {l : List RG} (hk : k < l.length) (hi : i = k * 13 + 3) (hc : cs.length = 7) (he : exC e = cs) : zbt (avs (l.flatMap rgC)) i (avs cs) = avs ((l.set k (jri (nth l k) e)).flatMap rgC) :=
 zdn yaa hk hi (by rw [zde]; omega) (jp9 (A := [sD (nth l k).name, iD (nth l k).w, iD (nth l k).init]) (B := [iD (nth l k).rk, sD (nth l k).rf, iD (nth l k).rn]) hc he (zik (nth l k).nx))
theorem jw6 {l : List QG} (hk : k < l.length) (hi : i = k * 16 + 2) (hc : cs.length = 7) (he : exC e = cs) : zbt (avs (l.flatMap qgC)) i (avs cs) = avs ((l.set k (jg7 (nth l k) e)).flatMap qgC) :=
 zdn jym hk hi (by rw [zde]; omega) (jp9 (A := [iD (nth l k).chan, iD (nth l k).w]) (B := exO (nth l k).da) hc he (zik (nth l k).wh))
theorem jw7 {l : List QG} (hk : k < l.length) (hi : i = k * 16 + 9) (hc : cs.length = 7) (he : exC e = cs) : zbt (avs (l.flatMap qgC)) i (avs cs) = avs ((l.set k (jg8 (nth l k) e)).flatMap qgC) :=
 zdn jym hk hi (by rw [zde]; omega) (by
  have := jp9 (A := [iD (nth l k).chan, iD (nth l k).w] ++ exO (nth l k).wh) (B := []) hc he (zik (nth l k).da)
  rw [List.length_append, zik] at this
  simpa [qgC, jg8, exO] using this)
theorem jw8 {l : List MG} (hk : k < l.length) (hi : i = k * 27 + 3) (hc : cs.length = 7) (he : exC e = cs) : zbt (avs (l.flatMap mgC)) i (avs cs) = avs ((l.set k (jb5 (nth l k) e)).flatMap mgC) :=
 zdn jw1 hk hi (by rw [zde]; omega) (jp9 (A := [sD (nth l k).name, iD (nth l k).w, iD (nth l k).words]) hc he (zik (nth l k).en))
theorem jw9 {l : List MG} (hk : k < l.length) (hi : i = k * 27 + 10) (hc : cs.length = 7) (he : exC e = cs) : zbt (avs (l.flatMap mgC)) i (avs cs) = avs ((l.set k (jb6 (nth l k) e)).flatMap mgC) :=
 zdn jw1 hk hi (by rw [zde]; omega) (by
  have := jp9 (A := [sD (nth l k).name, iD (nth l k).w, iD (nth l k).words] ++ exO (nth l k).en) (B := exO (nth l k).da ++ [iD (nth l k).rk, sD (nth l k).rf, iD (nth l k).rn]) hc he (zik (nth l k).ad)
  rw [List.length_append, zik] at this
  simpa [mgC, jb6, exO] using this)
theorem jxa {l : List MG} (hk : k < l.length) (hi : i = k * 27 + 17) (hc : cs.length = 7) (he : exC e = cs) : zbt (avs (l.flatMap mgC)) i (avs cs) = avs ((l.set k (jg9 (nth l k) e)).flatMap mgC) :=
 zdn jw1 hk hi (by rw [zde]; omega) (by
  have := jp9 (A := [sD (nth l k).name, iD (nth l k).w, iD (nth l k).words] ++ (exO (nth l k).en ++ exO (nth l k).ad)) (B := [iD (nth l k).rk, sD (nth l k).rf, iD (nth l k).rn]) hc he (zik (nth l k).da)
  rw [List.length_append, List.length_append, zik, zik] at this
  simpa [mgC, jg9, exO] using this)
end
/- Processes that bytes describe. -/
end
theorem Rt.fr9 {m : List Nat} {τ : Fr} {H : zad} : Rt m τ H τ (H ++ [.free, .free, .free, .free, .free, .free, .free, .free, .free]) := fun c a w _ h => R.reserve 9 H h
theorem ScS.arg1 {P : Program} {ks : List Nat} {f : FuncId} {x y y' : AV} {xs : List AV} {S : zad} {K : AV → zad → Prop} (h : ScS P ks f (x :: y :: xs) S K) (hi : Imp y' y) : ScS P ks f (x :: y' :: xs) S K :=
 ⟨h.1, fun E w pl vals hl hx hh hE => h.2 E w pl vals (by simpa using hl) (fun j z hj => by
  match j, hj with
  | 0, hj => exact hx 0 z hj
  | 1, hj => cases hj; exact hi _ _ _ _ (hx 1 _ rfl)
  | j + 2, hj => exact hx (j + 2) z hj) hh hE⟩
theorem Imp.part1 {a b b' : AV} {l : List AV} (h : Imp b' b) : Imp (.agg (a :: b' :: l)) (.agg (a :: b :: l)) := fun w pl own v hv => by
 cases hv with
 | agg _ vs hl hx =>
  refine .agg _ vs (by simpa using hl) fun j x hj => ?_
  match j, hj with
  | 0, hj => exact hx 0 x hj
  | 1, hj => cases hj; exact h _ _ _ _ (hx 1 _ rfl)
  | j + 2, hj => exact hx (j + 2) x hj
def jrj (m : MG) : SM := ⟨sD m.name, m.w, iD m.words :: (exO m.en ++ (exO m.ad ++ (exO m.da ++ [iD m.rk, sD m.rf, iD m.rn])))⟩
theorem yae (m : MG) : smC (jrj m) = mgC m := by
 unfold smC jrj mgC
 simp only
 rw [List.take_append_of_le_length (by simp [zik]), List.take_of_length_le (by simp [zik])]; rfl
def scM (ms : List MG) : Sc := ⟨[], [], ms.map jrj, true⟩
theorem zjv (ms : List MG) : zdm (scM ms) = .cells (avs (ms.flatMap mgC)) := by
 unfold zdm scM
 simp only
 rw [List.flatMap_map]
 rw [show (fun a => smC (jrj a)) = mgC from funext yae]
def ctG (rw tw : List Nat) (mw : List (Nat × Nat)) : Ct := ⟨rw, tw, mw⟩
def scG (rw tw : List Nat) (ms : List MG) (q : Bool) : Sc := ⟨rw, if q then tw else [], ms.map jrj, q⟩
structure WdOk (rw tw : List Nat) (mw : List (Nat × Nat)) : Prop where
 r1 : 1 ≤ rw.length
 r3 : rw.length ≤ 3
 r : ∀ w ∈ rw, 1 ≤ w ∧ w ≤ 3
 t2 : tw.length ≤ 2
 t : ∀ w ∈ tw, 1 ≤ w ∧ w ≤ 2
 m1 : mw.length ≤ 1
 m : ∀ x ∈ mw, (x.1 = 1 ∨ x.1 = 2 ∨ x.1 = 4) ∧ 1 ≤ x.2 ∧ x.2 ≤ 2
theorem WdOk.ct {rw tw : List Nat} {mw : List (Nat × Nat)} (h : WdOk rw tw mw) : CtOk (ctG rw tw mw) :=
 ⟨fun i hi => by have := h.r _ (zb0 (l := rw) hi); show 1 ≤ nth rw i ∧ nth rw i ≤ 8; omega, fun i hi => by have := h.t _ (zb0 (l := tw) hi); show 1 ≤ nth tw i ∧ nth tw i ≤ 8; omega,
  fun i hi => by have := h.m _ (zb0 (l := mw) hi); show 1 ≤ (nth mw i).1 ∧ (nth mw i).1 ≤ 8 ∧ 1 ≤ (nth mw i).2 ∧ (nth mw i).2 ≤ 8; omega, by have := h.m1; show mw.length ≤ 8; omega⟩
theorem WdOk.sc {rw tw : List Nat} {mw : List (Nat × Nat)} (h : WdOk rw tw mw) {ms : List MG} (hm : (ms.map fun m => (m.words, m.w)) = mw) (q : Bool) : ScOk (ctG rw tw mw) (scG rw tw ms q) := by
 have hml : ms.length = mw.length := by rw [← hm]; simp
 refine ⟨rfl, fun e => ?_, ?_, by have := h.r3; show rw.length ≤ 100; omega, ?_, by have := h.m1; simp [scG]; omega⟩
 ·have e : q = true := e
  subst e; rfl
 ·show mw.map (·.2) = (ms.map jrj).map (·.w)
  rw [← hm, List.map_map, List.map_map]; rfl
 ·have := h.t2
  show (if q = true then tw else []).length ≤ 100
  split
  ·omega
  ·simp
theorem zk0 {α β : Type} [Inhabited α] {f : α → β} {l : List α} {k : Nat} {a : α} (hk : k < l.length) (h : f a = f (nth l k)) : (l.set k a).map f = l.map f := by
 rw [List.map_set, h, zek hk]
 have : f l[k] = (l.map f)[k]'(by simpa using hk) := by simp
 rw [this, List.set_getElem_self]
def DoT (C : Ct) (ts : List TG) (k : Nat) : Prop := ∀ q, q < k → ∃ e, (nth ts q).wh = some e ∧ Fit C false 1 32 e
def DoR (C : Ct) (rs : List RG) (k : Nat) : Prop := ∀ q, q < k → ∃ e, (nth rs q).nx = some e ∧ Fit C true (nth rs q).w (if q = 0 then 128 else 32) e
def DoQ (C : Ct) (qs : List QG) (k : Nat) : Prop := ∀ q, q < k → ∃ e d, (nth qs q).wh = some e ∧ (nth qs q).da = some d ∧ Fit C true 1 32 e ∧ Fit C true (nth qs q).w 32 d
def DoM (C : Ct) (ms : List MG) (k : Nat) : Prop := ∀ q, q < k → ∃ e a d, (nth ms q).en = some e ∧ (nth ms q).ad = some a ∧ (nth ms q).da = some d ∧ Fit C true 1 32 e ∧ WT C true a ∧ zbw C a = 0 ∧ Fit C true (nth ms q).w 32 d
theorem DoT.step {C : Ct} {ts : List TG} {k : Nat} (h : DoT C ts k) (hk : k < ts.length) {e : Ex} (he : Fit C false 1 32 e) : DoT C (ts.set k (jg6 (nth ts k) e)) (k + 1) := fun q hq => by
 by_cases e1 : k = q
 ·subst e1; rw [zeq hk]; exact ⟨e, rfl, he⟩
 ·rw [ziu e1]; exact h q (by omega)
theorem DoR.step {C : Ct} {rs : List RG} {k : Nat} (h : DoR C rs k) (hk : k < rs.length) {e : Ex} (he : Fit C true (nth rs k).w (if k = 0 then 128 else 32) e) : DoR C (rs.set k (jri (nth rs k) e)) (k + 1) := fun q hq => by
 by_cases e1 : k = q
 ·subst e1; rw [zeq hk]; exact ⟨e, rfl, he⟩
 ·rw [ziu e1]; exact h q (by omega)
theorem DoQ.step {C : Ct} {qs : List QG} {k : Nat} (h : DoQ C qs k) (hk : k < qs.length) {e d : Ex} (he : Fit C true 1 32 e) (hd : Fit C true (nth qs k).w 32 d) : DoQ C (qs.set k (jg8 (jg7 (nth qs k) e) d)) (k + 1) := fun q hq => by
 by_cases e1 : k = q
 ·subst e1; rw [zeq hk]; exact ⟨e, d, rfl, rfl, he, hd⟩
 ·rw [ziu e1]; exact h q (by omega)
theorem DoM.step {C : Ct} {ms : List MG} {k : Nat} (h : DoM C ms k) (hk : k < ms.length) {e a d : Ex} (he : Fit C true 1 32 e) (ha : WT C true a) (hc : zbw C a = 0) (hd : Fit C true (nth ms k).w 32 d) : DoM C (ms.set k (jg9 (jb6 (jb5 (nth ms k) e) a) d)) (k + 1) := fun q hq => by
 by_cases e1 : k = q
 ·subst e1; rw [zeq hk]; exact ⟨e, a, d, rfl, rfl, rfl, he, ha, hc, hd⟩
 ·rw [ziu e1]; exact h q (by omega)
end Go.Proofs.Ytapjobndmmkanaa
