/- Of no program: objects seen under other numbers; rows that are handed in by value, lengthened, and handed back. -/
import Derived.Test.YtgfnpfchdlcoeaaGa
import Derived.Test.YtgfnpfchdlcoeaaQr
import Derived.Test.YtgfnpfchdlcoeaaQ
import Derived.Test.YtgfnpfchdlcoeaaGf
set_option linter.unusedVariables false
set_option linter.unusedSimpArgs false
namespace Go.Proofs.Ytgfnpfchdlcoeaa
open Go Go.RowKit
section
variable {P : Program} {c : Cx} {τ : Fr} {a : Act} {w w' : World} {pl pl' : List (Option (Nat × Nat))} {H : zal}
theorem RelS.view (h : RelS c τ H [] pl a w) {keep : List Nat} (hn : keep.Nodup) (hlen : pl'.length = keep.length) (hp : ∀ (j i : Nat), keep[j]? = some i → i < H.length → pl'[j]? = pl[i]?) (h0 : ∀ (i : Nat) (p : Nat × Nat), c.pl0[i]? = some (some p) → pl'[i]? = some (some p)) :
  RelS c (fun t => gcV keep (τ t)) (gcH keep H) [] pl' a w := by
 have hpl := h.h.len
 have sub : ∀ {j : Nat} {p : Nat × Nat}, (gcP keep pl)[j]? = some (some p) → pl'[j]? = some (some p) := fun {j p} hj => by
  obtain ⟨i, h1, h2⟩ := zyp hj
  rw [hp j i h1 (by have := (List.getElem?_eq_some_iff.1 h2).1; omega)]; exact h2
 have get : ∀ {j i : Nat} {p : Option (Nat × Nat)}, keep[j]? = some i → i < H.length → pl[i]? = some p → pl'[j]? = some p := fun h1 h2 h3 => (hp _ _ h1 h2).trans h3
 have back : ∀ {j : Nat} {o' : AObj}, (gcH keep H)[j]? = some o' → (∃ i o, keep[j]? = some i ∧ i < H.length ∧ H[i]? = some o ∧ o' = gcO keep o) ∨ o' = .dead := fun {j o'} hj => by
  unfold gcH at hj
  rw [List.getElem?_map, Option.map_eq_some_iff] at hj
  obtain ⟨i, hi, rfl⟩ := hj
  by_cases hlt : i < H.length
  ·exact .inl ⟨i, H[i], hi, hlt, List.getElem?_eq_getElem hlt, by rw [List.getD_eq_getElem?_getD, List.getElem?_eq_getElem hlt]; rfl⟩
  ·refine .inr ?_
   rw [List.getD_eq_getElem?_getD, List.getElem?_eq_none (by omega)]; rfl
 have placed : ∀ {j : Nat} {o' : AObj} {p : Nat × Nat}, (gcH keep H)[j]? = some o' → o'.live = true → pl'[j]? = some (some p) → ∃ i o, keep[j]? = some i ∧ H[i]? = some o ∧ o.live = true ∧ pl[i]? = some (some p) := fun {j o' p} hj hl hpj => by
  rcases back hj with ⟨i, o, h1, h2, h3, rfl⟩ | rfl
  ·exact ⟨i, o, h1, h3, by rw [zos] at hl; exact hl, by rw [← hp j i h1 h2]; exact hpj⟩
  ·cases hl
 have hown : ∀ b, zb6 c.E (gcH keep H) pl' b → zb6 c.E H pl b := fun b hbo => by
  rcases hbo with hbo | ⟨j, o', e, h1, h2, h3⟩
  ·exact .inl hbo
  ·obtain ⟨i, o, _, k2, k3, k4⟩ := placed h1 h2 h3
   exact .inr ⟨i, o, e, k2, k3, k4⟩
 have rd : ∀ {x v}, Rd w pl (zb6 c.E H pl) x v → Rd w pl' (zb6 c.E (gcH keep H) pl') (gcV keep x) v := fun hx =>
  (jgv (keep := keep) (own' := zb6 c.E (gcH keep H) pl') hown hx).mono (Nat.le_refl _) (fun _ _ _ => rfl) (fun _ _ h => h) (fun _ _ h => h) (fun i p hi => sub hi)
 refine ⟨⟨by simpa [gcH] using hlen, fun j o' hj => ?_, fun i j oi oj p q h1 h2 l1 l2 hne _ _ p1 p2 => ?_, fun i o p h1 l1 p1 => ?_, fun p hp => (by cases hp), fun i j ci cj p q hm => (by cases hm)⟩, h.stp, fun i o p h1 l1 p1 => ?_, h.ext, fun t => rd (h.fr t), h.size, h.defs, h0⟩
 ·rcases back hj with ⟨i, o, h1, h2, h3, rfl⟩ | rfl
  ·have ho := h.h.obj i o h3
   cases o with
   | free => exact get h1 h2 ho
   | dead => trivial
   | cells cs =>
    rcases ho with ⟨k1, k2⟩ | ⟨b, base, arr, t, k1, k2, k3, k4⟩
    ·exact .inl ⟨by subst k1; rfl, get h1 h2 k2⟩
    ·refine .inr ⟨b, base, arr, t, get h1 h2 k1, k2, by rw [zfg]; simpa using k3, fun j y hj => ?_⟩
     rw [zfg, List.getElem?_map, Option.map_eq_some_iff] at hj
     obtain ⟨x, hx, rfl⟩ := hj
     exact ⟨rd (k4 j x hx).1, (k4 j x hx).2⟩
   | map es clock =>
    obtain ⟨b, base, ms, k1, k2, k3, k4, k5⟩ := ho
    refine ⟨b, base, ms, get h1 h2 k1, k2, by simpa using k3, by rw [List.map_map]; exact k4, fun j e k n x hj hx => ?_⟩
    rw [List.getElem?_map, Option.map_eq_some_iff] at hx
    obtain ⟨⟨k', n', x'⟩, hx', he⟩ := hx
    cases he
    obtain ⟨m1, m2, m3⟩ := k5 j e k' n' x' hj hx'
    exact ⟨m1, m2, rd m3⟩
  ·trivial
 ·obtain ⟨i', o1, a1, a2, a3, a4⟩ := placed h1 l1 p1
  obtain ⟨j', o2, b1, b2, b3, b4⟩ := placed h2 l2 p2
  refine h.h.dis i' j' o1 o2 p q a2 b2 a3 b3 (fun e => ?_) (by simp) (by simp) a4 b4
  subst e
  have hnd := List.pairwise_iff_getElem.1 hn
  obtain ⟨m1, g1⟩ := List.getElem?_eq_some_iff.1 a1
  obtain ⟨m2, g2⟩ := List.getElem?_eq_some_iff.1 b1
  rcases Nat.lt_trichotomy i j with hl | hl | hl
  ·exact hnd i j m1 m2 hl (g1.trans g2.symm)
  ·exact hne hl
  ·exact hnd j i m2 m1 hl (g2.trans g1.symm)
 ·obtain ⟨i', o1, a1, a2, a3, a4⟩ := placed h1 l1 p1
  exact h.h.ext i' o1 p a2 a3 a4
 ·obtain ⟨i', o1, a1, a2, a3, a4⟩ := placed h1 l1 p1
  exact h.own0 i' o1 p a2 a3 a4
end
theorem Rt.view {m : List Nat} {τ : Fr} {H : zal} {keep : List Nat} (hn : keep.Nodup) (hm : ∀ i ∈ m, i < keep.length ∧ ∀ k, keep[i]? = some k → k = i ∨ H.length ≤ k) : Rt m τ H (fun t => gcV keep (τ t)) (gcH keep H) := fun c a w hp ⟨pl, h⟩ => by
 have hpl := h.h.len
 refine ⟨(List.range keep.length).map fun j => if (decide (j ∈ m)) && decide (j < pl.length) then pl.getD j none else (gcP keep pl).getD j none, h.view hn (by simp) (fun j i hj hi => ?_) (fun i p hi => ?_)⟩
 ·have hjl := (List.getElem?_eq_some_iff.1 hj).1
  rw [List.getElem?_map, List.getElem?_range hjl, Option.map_some]
  have hpi : pl[i]? = some (pl.getD i none) := by rw [List.getD_eq_getElem?_getD, List.getElem?_eq_getElem (by omega)]; rfl
  split
  ·rename_i hc
   simp only [Bool.and_eq_true, decide_eq_true_eq] at hc
   rcases (hm j hc.1).2 i hj with e | e
   ·subst e; exact hpi.symm
   ·omega
  ·rw [hpi, List.getD_eq_getElem?_getD, zlm hj hpi]; rfl
 ·have him := hp i p hi
  have hk := h.keep i p hi
  have hil := (List.getElem?_eq_some_iff.1 hk).1
  rw [List.getElem?_map, List.getElem?_range (hm i him).1, Option.map_some]
  simp only [him, hil, decide_true, Bool.and_self, if_true]
  rw [List.getD_eq_getElem?_getD, hk]; rfl
theorem Rt.free {m : List Nat} {τ : Fr} {H : zal} (n : Nat) : Rt m τ H τ (H ++ List.replicate n .free) := fun c a w _ h => R.reserve n H h
def up2 : List Nat := [1000, 1001, 0, 1, 2, 3, 4]
theorem jss {H : zal} (h : H.length = 5) : gcH up2 H = .dead :: .dead :: H.map (gcO up2) := by
 match H, h with
 | [a, b, c, d, e], _ => simp [gcH, up2, gcO]
theorem ScS.up {P : Program} {f : FuncId} {xs : List AV} {S : zal} {K : AV → zal → Prop} (h : ScS P [0, 1] f xs S K) (hS : S.length = 5) (hK : ∀ x S', K x S' → S'.length = 5)
  (hx : ∀ x ∈ xs, gcV [2, 3, 4, 5, 6] (gcV up2 x) = x) (hs : S.map (fun o => gcO [2, 3, 4, 5, 6] (gcO up2 o)) = S) :
  ScS P [0, 1, 2, 3] f (xs.map (gcV up2)) (.dead :: .dead :: S.map (gcO up2)) fun x S' => ∃ x0 S0, K x0 S0 ∧ x = gcV up2 x0 ∧ S' = .dead :: .dead :: S0.map (gcO up2) := by
 refine ⟨h.1, fun E w pl vals hl hxr hh hE => ?_⟩
 have hpl : pl.length = 7 := by rw [hh.len]; simp [hS]
 have hR : RelS ⟨E, w, zgg (.dead :: .dead :: S.map (gcO up2)) pl, vals.size, []⟩ (ze6 (xs.map (gcV up2))) (.dead :: .dead :: S.map (gcO up2)) [] pl { tmps := vals, defers := [] } w := by
  refine ⟨hh, Stp.refl _ _, fun id o p h1 h2 h3 => .inl ⟨id, o, p.2, h1, h2, h3⟩, hE, fun t => ?_, rfl, rfl, fun i p hi => by simp at hi⟩
  unfold ze6
  rw [List.getD_eq_getElem?_getD]
  cases hd : (xs.map (gcV up2))[t]? with
  | none =>
   have : vals.size ≤ t := by rw [hl]; exact List.getElem?_eq_none_iff.1 hd
   simp only [Array.getD, dif_neg (Nat.not_lt.2 this)]
   exact .d _ _ (.val _)
  | some x => exact hxr t x hd
 have gS : gcH [2, 3, 4, 5, 6] (.dead :: .dead :: S.map (gcO up2)) = S := by
  conv => rhs; rw [← hs]
  match S, hS with
  | [a, b, c, d, e], _ => simp [gcH]
 have hV := hR.view (keep := [2, 3, 4, 5, 6]) (pl' := pl.drop 2) (by decide) (by simp [hpl]) (fun j i hj hi => by
  match j, hj with
  | 0, hj => cases hj; simp
  | 1, hj => cases hj; simp
  | 2, hj => cases hj; simp
  | 3, hj => cases hj; simp
  | 4, hj => cases hj; simp
  | j + 5, hj => simp at hj) (fun i p hi => by simp at hi)
 rw [gS] at hV
 have live2 : ∀ {j : Nat} {o : AObj}, S[j]? = some o → (.dead :: .dead :: S.map (gcO up2) : zal)[j + 2]? = some (gcO up2 o) := fun {j o} hj => by simp [hj]
 have down : ∀ b, zgg S (pl.drop 2) b → zgg (.dead :: .dead :: S.map (gcO up2)) pl b := fun b ⟨j, o, e, k1, k2, k3⟩ => by
  refine ⟨j + 2, gcO up2 o, e, live2 k1, by rw [zos]; exact k2, ?_⟩
  rw [List.getElem?_drop, Nat.add_comm] at k3
  exact k3
 refine (h.2 E w (pl.drop 2) vals (by simpa using hl) (fun j x hj => ?_) hV.h hE).mono fun e w' ⟨v, x0, S0, plv, k1, k2, k3, k4, k5, k6, k7⟩ => ?_
 ·have hf := hV.fr j
  have hm : (xs.map (gcV up2))[j]? = some (gcV up2 x) := by rw [List.getElem?_map, hj]; rfl
  have e1 : ze6 (xs.map (gcV up2)) j = gcV up2 x := by
   unfold ze6
   rw [List.getD_eq_getElem?_getD, hm]; rfl
  simp only [e1] at hf
  rw [hx x (List.mem_of_getElem? hj)] at hf
  exact hf
 ·have h0l := hK x0 S0 k2
  have hpv : plv.length = 5 := by rw [k4.len, h0l]
  have hR2 : RelS ⟨E, w', zgg S0 plv, 1, []⟩ (ze6 [x0]) S0 [] plv { tmps := #[v], defers := [] } w' := by
   refine ⟨k4, Stp.refl _ _, fun id o p h1 h2 h3 => .inl ⟨id, o, p.2, h1, h2, h3⟩, fun b hb => Nat.lt_of_lt_of_le (hE b hb) k5.size, fun t => ?_, rfl, rfl, fun i p hi => by simp at hi⟩
   match t with
   | 0 => exact k3
   | t + 1 => exact .d _ _ (.val _)
  have hV2 := hR2.view (keep := up2) (pl' := pl.getD 0 none :: pl.getD 1 none :: plv) (by decide) (by simp [up2, hpv]) (fun j i hj hi => by
   match j, hj with
   | 0, hj => cases hj; omega
   | 1, hj => cases hj; omega
   | 2, hj => cases hj; simp
   | 3, hj => cases hj; simp
   | 4, hj => cases hj; simp
   | 5, hj => cases hj; simp
   | 6, hj => cases hj; simp
   | j + 7, hj => simp [up2] at hj) (fun i p hi => by simp at hi)
  rw [jss h0l] at hV2
  have hown2 : ∀ b, zgg (.dead :: .dead :: S0.map (gcO up2)) (pl.getD 0 none :: pl.getD 1 none :: plv) b → zgg S0 plv b := fun b ⟨j, o, e, m1, m2, m3⟩ => by
   match j, m1, m3 with
   | 0, m1, _ => cases m1; cases m2
   | 1, m1, _ => cases m1; cases m2
   | j + 2, m1, m3 =>
    simp only [List.getElem?_cons_succ, List.getElem?_map, Option.map_eq_some_iff] at m1
    obtain ⟨o', m4, rfl⟩ := m1
    exact ⟨j, o', e, m4, by rw [zos] at m2; exact m2, by simpa using m3⟩
  refine ⟨v, gcV up2 x0, _, _, k1, ⟨x0, S0, k2, rfl, rfl⟩, hV2.fr 0, hV2.h, k5.mono fun b _ hb => down b hb, fun b hb => ?_, fun i p hi hp => ?_⟩
  ·rcases k6 b (hown2 b hb) with h1 | h1
   ·exact .inl (down b h1)
   ·exact .inr h1
  ·have h4 : i = 0 ∨ i = 1 ∨ i = 2 ∨ i = 3 := by simpa using hi
   rcases h4 with rfl | rfl | rfl | rfl
   ·rw [List.getElem?_cons_zero, List.getD_eq_getElem?_getD, hp]; rfl
   ·rw [List.getElem?_cons_succ, List.getElem?_cons_zero, List.getD_eq_getElem?_getD, hp]; rfl
   ·have := k7 0 p (by simp) (by rw [List.getElem?_drop]; exact hp)
    simpa using this
   ·have := k7 1 p (by simp) (by rw [List.getElem?_drop]; exact hp)
    simpa using this
end Go.Proofs.Ytgfnpfchdlcoeaa

/- Truth tables of trees; a table that is constant. -/
set_option linter.unusedVariables false
set_option linter.unusedSimpArgs false
set_option maxRecDepth 100000
set_option maxHeartbeats 4000000
namespace Go.Proofs.Ytgfnpfchdlcoeaa
open Go Go.RowKit
def tbF (V k : Nat) (s : T) : List Bool := (List.range (2 ^ (V - k))).map fun i => s.eval (asn V i)
theorem zqj (V k : Nat) (s : T) : (tbF V k s).length = 2 ^ (V - k) := by simp [tbF]
theorem zzz {V k i : Nat} {s : T} (h : i < 2 ^ (V - k)) : nth (tbF V k s) i = s.eval (asn V i) := zdi h
theorem zo0 {V k : Nat} (h : k < V) : 2 ^ (V - k) = 2 ^ (V - (k + 1)) + 2 ^ (V - (k + 1)) := by rw [show V - k = (V - (k + 1)) + 1 by omega, Nat.pow_succ]; omega
theorem zz0 {V k : Nat} (h : k < V) (s : T) : (tbF V k s).take (2 ^ (V - (k + 1))) = (List.range (2 ^ (V - (k + 1)))).map fun i => s.eval (asn V i) := by
 unfold tbF
 rw [zo0 h, List.range_add, List.map_append, List.take_append_of_le_length (by simp), List.take_of_length_le (by simp)]
theorem zz1 {V k : Nat} (h : k < V) (s : T) : (tbF V k s).drop (2 ^ (V - (k + 1))) = (List.range (2 ^ (V - (k + 1)))).map fun i => s.eval (asn V (2 ^ (V - 1 - k) + i)) := by
 unfold tbF
 rw [zo0 h, List.range_add, List.map_append, List.drop_append_of_le_length (by simp), List.drop_of_length_le (by simp), List.nil_append, List.map_map, show V - (k + 1) = V - 1 - k by omega]
 rfl
theorem zqk {V k : Nat} (h : k < V) (s : T) : (tbF V k s).take (2 ^ (V - (k + 1))) = tbF V (k + 1) s := zz0 h s
theorem zxz {V k : Nat} (h : k < V) {s : T} (hs : s.Ok V (k + 1)) : (tbF V k s).drop (2 ^ (V - (k + 1))) = tbF V (k + 1) s := by
 rw [zz1 h]
 exact List.map_congr_left fun i _ => jp3 hs
theorem zql {V v : Nat} {l h : T} (hok : (T.node v l h).Ok V v) : (tbF V v (.node v l h)).take (2 ^ (V - (v + 1))) = tbF V (v + 1) l := by
 rw [zz0 hok.2.1]
 refine List.map_congr_left fun i hi => ?_
 exact jst (by rw [show V - 1 - v = V - (v + 1) by omega]; exact List.mem_range.1 hi)
theorem zqm {V v : Nat} {l h : T} (hok : (T.node v l h).Ok V v) : (tbF V v (.node v l h)).drop (2 ^ (V - (v + 1))) = tbF V (v + 1) h := by
 rw [zz1 hok.2.1]
 refine List.map_congr_left fun i hi => ?_
 exact jsu hok (by rw [show V - 1 - v = V - (v + 1) by omega]; exact List.mem_range.1 hi)
theorem jj1 {V k i : Nat} {s : T} (hs : s.Ok V k) : s.eval (asn V (i % 2 ^ (V - k))) = s.eval (asn V i) := hs.eval_eq fun v h1 h2 => by
 unfold asn
 rw [Nat.testBit_mod_two_pow, decide_eq_true (p := V - 1 - v < V - k) (by omega), Bool.true_and]
theorem zx0 {V k : Nat} {s t : T} (hs : s.Ok V k) (ht : t.Ok V k) (h : tbF V k s = tbF V k t) : s = t :=
 jp4 hs ht fun i _ => by
  have hlt := Nat.mod_lt i (Nat.two_pow_pos (V - k))
  rw [← jj1 hs, ← jj1 ht, ← zzz hlt, ← zzz hlt, h]
theorem jio {V v : Nat} {l h : T} (hok : (T.node v l h).Ok V v) : (tbF V v (.node v l h)).take (2 ^ (V - (v + 1))) ≠ (tbF V v (.node v l h)).drop (2 ^ (V - (v + 1))) := fun e => by
 rw [zql hok, zqm hok] at e
 exact hok.2.2.1 (zx0 hok.2.2.2.1 hok.2.2.2.2 e)
def zjy (l : List Bool) : Bool := l.all fun b => b == nth l 0
def zn9 (l : List Bool) : Int := if zjy l then (if nth l 0 then 1 else 0) else -1
theorem zs0 (V k : Nat) (b : Bool) : zn9 (tbF V k (.leaf b)) = if b then 1 else 0 := by
 have hp := Nat.two_pow_pos (V - k)
 have h0 : nth (tbF V k (.leaf b)) 0 = b := by rw [zzz hp]; rfl
 unfold zn9
 rw [if_pos, h0]
 unfold zjy
 rw [List.all_eq_true]
 intro x hx
 obtain ⟨i, hi, rfl⟩ := List.mem_map.1 hx
 rw [h0]; simp [T.eval]
theorem jcj {V k : Nat} {s : T} (hs : s.Ok V k) (hn : s.lf = false) : zn9 (tbF V k s) = -1 := by
 unfold zn9
 rw [if_neg]
 intro h
 have hp := Nat.two_pow_pos (V - k)
 unfold zjy at h
 rw [List.all_eq_true] at h
 have e : s = .leaf (nth (tbF V k s) 0) := zx0 hs (t := .leaf _) trivial (jdy (by rw [zqj, zqj]) fun i hi => by
  rw [zqj] at hi
  have := h _ (zcf (l := tbF V k s) (k := i) (by rw [zqj]; exact hi))
  rw [show nth (tbF V k s) i = nth (tbF V k s) 0 by simpa using this, zzz (s := .leaf _) hi]; rfl)
 rw [e] at hn
 cases hn
theorem jck (l : List Bool) (h0 : 0 < l.length) (hl : l.length ≤ 1000000) : zbi Try.prog 65 [zas l] (.d (iD (zn9 l))) := by
 refine za8 (fn := Try.f65) (by kernel_rfl) Try.func65 rfl (Nat.le_of_ble_eq_true rfl) fun c hc hp => ?_
 refine zba (τ' := frL [(0, .d (zas l))]) (zaa (zae _) rfl) ?_
 refine zab hp zad hc rfl fun K1 hK1 => ?_
 simp -dsimp -implicitDefEqProofs (disch := first | omega | decide) only [q_r, zas]
 refine hK1 _ _ ?_
 refine zaf fun K2 hK2 => ?_
 refine zab hp zad hc rfl fun K3 hK3 => ?_
 simp -dsimp -implicitDefEqProofs (disch := first | omega | decide) only [q_r]
 refine hK3 _ _ ?_
 refine zaq ?_
 refine za4 hp (fun τ' H' mm => ∃ (k : Nat), (1 ≤ k ∧ k ≤ l.length ∧ ∀ j, j < k → nth l j = nth l 0) ∧ mm = l.length - k ∧ H' = [] ∧ τ' = frL [(0, .d (zas l)), (3, .d (iD k))]) (l.length - 1) ?_ ⟨1, ⟨Nat.le_refl _, h0, fun j hj => by rw [show j = 0 by omega]⟩, rfl, rfl, rfl⟩ ?_
 ·refine Rt.end (zaa (zaa (zae _) rfl) rfl) ?_
  rfl
 rintro τ' H' mm ⟨k, ⟨hk1, hk, hs⟩, rfl, rfl, rfl⟩
 refine zaf fun K4 hK4 => ?_
 refine zab hp zad hc rfl fun K5 hK5 => ?_
 simp -dsimp -implicitDefEqProofs (disch := first | omega | decide) only [q_r, zc1, zar, ↓reduceIte, Nat.reduceEqDiff, iD, zas, ze4]
 refine hK5 _ _ ?_
 refine zag rfl (fun ht => ?_) (fun ht => ?_)
 ·have hlt : k < l.length := by simp at ht; omega
  refine zan (hK4 _ _ ?_)
  refine zaf fun K6 hK6 => ?_
  refine zaq ?_
  refine zbo zad hc mixed rfl (q := 0) (by kernel_rfl) (by kernel_rfl) fun K7 hK7 => ?_
  simp -dsimp -implicitDefEqProofs (disch := first | omega | decide) only [q_r, zam, ixO, zai, ↓reduceIte, List.append_nil, List.replicate_zero, Int.toNat_natCast, Nat.reduceEqDiff, killAll, oD, Nat.reduceAdd, Int.toNat_zero, ze4, zus, jep, jn5]
  refine hK7 _ _ ?_
  refine zag rfl (fun ht => ?_) (fun ht => ?_)
  ·have hne : zjy l = false := by
    have h1 : ¬ nth l k = nth l 0 := by simpa using ht
    cases hc : zjy l
    ·rfl
    ·unfold zjy at hc
     rw [List.all_eq_true] at hc
     exact absurd (by simpa using hc _ (zcf hlt)) h1
   refine zab hp zad hc rfl fun K8 hK8 => ?_
   simp -dsimp -implicitDefEqProofs (disch := first | omega | decide) only [q_r]
   refine hK8 _ _ ?_
   refine zao ?_
   show zaj _ _ = _
   simp (disch := first | omega | decide) only [zaj, zct, za1, D.fix, zat, ↓reduceIte, Option.map_some, List.length_nil, iD]
   unfold zn9
   rw [hne]; rfl
  ·have he : nth l k = nth l 0 := by simpa using ht
   refine zan (hK6 _ _ ?_)
   refine zbs hp zad hc rfl fun K9 hK9 => ?_
   simp -dsimp -implicitDefEqProofs (disch := first | omega | decide) only [q_r, ↓reduceIte, Nat.reduceEqDiff]
   refine hK9 _ _ ⟨_, _, _, ?_, ⟨k + 1, ⟨by omega, by omega, fun j hj => by by_cases e : j = k; rw [e]; exact he; exact hs j (by omega)⟩, rfl, rfl, rfl⟩, ?_⟩
   ·first | omega | (simp only [List.length_cons]; omega) | (dsimp only; omega)
   ·refine Rt.end (zaa (zaa (zae _) rfl) rfl) ?_
    rfl
 ·have hke : k = l.length := by simp at ht; omega
  have hall : zjy l = true := by
   unfold zjy
   rw [List.all_eq_true]
   intro x hx
   obtain ⟨i, hi, rfl⟩ := List.getElem_of_mem hx
   rw [← zcd hi, hs i (by omega)]; simp
  refine zbd (hK2 _ _ ?_)
  refine zaf fun K10 hK10 => ?_
  refine zab hp zad hc rfl fun K11 hK11 => ?_
  simp -dsimp -implicitDefEqProofs (disch := first | omega | decide) only [q_r, zam, ixO, zai, ↓reduceIte, Nat.reduceEqDiff, oD, Int.toNat_zero, ze4, zus, jep]
  refine hK11 _ _ ?_
  refine zag rfl (fun ht => ?_) (fun ht => ?_)
  ·refine zab hp zad hc rfl fun K12 hK12 => ?_
   simp -dsimp -implicitDefEqProofs (disch := first | omega | decide) only [q_r]
   refine hK12 _ _ ?_
   refine zao ?_
   show zaj _ _ = _
   simp (disch := first | omega | decide) only [zaj, zct, za1, D.fix, zat, ↓reduceIte, Option.map_some, List.length_nil, iD]
   unfold zn9
   rw [hall, show nth l 0 = true by simpa using ht]; rfl
  ·refine zan (hK10 _ _ ?_)
   refine zab hp zad hc rfl fun K13 hK13 => ?_
   simp -dsimp -implicitDefEqProofs (disch := first | omega | decide) only [q_r]
   refine hK13 _ _ ?_
   refine zao ?_
   show zaj _ _ = _
   simp (disch := first | omega | decide) only [zaj, zct, za1, D.fix, zat, ↓reduceIte, Option.map_some, List.length_nil, iD]
   unfold zn9
   rw [hall, show nth l 0 = false by simpa using ht]; rfl
end Go.Proofs.Ytgfnpfchdlcoeaa
