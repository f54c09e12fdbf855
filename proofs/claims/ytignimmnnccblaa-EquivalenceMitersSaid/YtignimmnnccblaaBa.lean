/- Of no program: reduced ordered trees; two that have the same values are equal. -/
import Derived.Test.YtignimmnnccblaaAV
set_option linter.unusedVariables false
set_option linter.unusedSimpArgs false
namespace Go.Proofs.Ytignimmnnccblaa
inductive T where
 | leaf (b : Bool)
 | node (v : Nat) (lo hi : T)
 deriving DecidableEq, Inhabited
def T.eval (a : Nat → Bool) : T → Bool
 | .leaf b => b
 | .node v lo hi => if a v then hi.eval a else lo.eval a
def T.Ok (V : Nat) : Nat → T → Prop
 | _, .leaf _ => True
 | k, .node v lo hi => k ≤ v ∧ v < V ∧ lo ≠ hi ∧ lo.Ok V (v + 1) ∧ hi.Ok V (v + 1)
def upd (a : Nat → Bool) (v : Nat) (b : Bool) : Nat → Bool := fun i => if i = v then b else a i
theorem zwm {a : Nat → Bool} {v : Nat} {b : Bool} : upd a v b v = b := by simp [upd]
theorem jpf {a : Nat → Bool} {v i : Nat} {b : Bool} (h : i ≠ v) : upd a v b i = a i := by simp [upd, h]
theorem T.Ok.mono {V : Nat} : ∀ {t : T} {k j : Nat}, t.Ok V k → j ≤ k → t.Ok V j
 | .leaf _, _, _, _, _ => trivial
 | .node v lo hi, k, j, ⟨h1, h2⟩, hj => ⟨Nat.le_trans hj h1, h2⟩
theorem T.Ok.eval_eq {V : Nat} {a b : Nat → Bool} : ∀ {t : T} {k : Nat}, t.Ok V k → (∀ i, k ≤ i → i < V → a i = b i) → t.eval a = t.eval b
 | .leaf _, _, _, _ => rfl
 | .node v lo hi, k, ⟨h1, h2, _, h4, h5⟩, h => by
  unfold T.eval
  rw [h v h1 h2, h4.eval_eq fun i hi => h i (by omega), h5.eval_eq fun i hi => h i (by omega)]
theorem T.Ok.eval_upd {V : Nat} {a : Nat → Bool} {t : T} {k v : Nat} {b : Bool} (h : t.Ok V k) (hv : v < k) : t.eval (upd a v b) = t.eval a := h.eval_eq fun i hi _ => jpf (by omega)
theorem T.Ok.lo {V : Nat} {v k : Nat} {lo hi : T} (h : (T.node v lo hi).Ok V k) (a : Nat → Bool) : (T.node v lo hi).eval (upd a v false) = lo.eval a := by
 obtain ⟨h1, h2, h3, h4, h5⟩ := h
 show (if upd a v false v then _ else _) = _
 rw [zwm, if_neg (by simp), h4.eval_upd (by omega)]
theorem T.Ok.hi {V : Nat} {v k : Nat} {lo hi : T} (h : (T.node v lo hi).Ok V k) (a : Nat → Bool) : (T.node v lo hi).eval (upd a v true) = hi.eval a := by
 obtain ⟨h1, h2, h3, h4, h5⟩ := h
 show (if upd a v true v then _ else _) = _
 rw [zwm, if_pos rfl, h5.eval_upd (by omega)]
def T.sz : T → Nat
 | .leaf _ => 1
 | .node _ lo hi => lo.sz + hi.sz + 1
theorem T.canon {V : Nat} : ∀ (n : Nat) {t s : T} {k j : Nat}, t.sz + s.sz ≤ n → t.Ok V k → s.Ok V j → (∀ a, t.eval a = s.eval a) → t = s
 | 0, t, s, _, _, hn, _, _, _ => by cases t <;> simp [T.sz] at hn
 | n + 1, t, s, k, j, hn, ht, hs, he => by
  cases t with
  | leaf b =>
   cases s with
   | leaf c => have := he fun _ => false; simp only [T.eval] at this; rw [this]
   | node v lo hi =>
    exfalso
    have h0 : T.leaf b = lo := T.canon n (k := 0) (by simp [T.sz] at hn ⊢; omega) trivial hs.2.2.2.1 fun a => (he (upd a v false)).trans (hs.lo a)
    have h1 : T.leaf b = hi := T.canon n (k := 0) (by simp [T.sz] at hn ⊢; omega) trivial hs.2.2.2.2 fun a => (he (upd a v true)).trans (hs.hi a)
    exact hs.2.2.1 (h0.symm.trans h1)
  | node v lo hi =>
   cases s with
   | leaf c =>
    exfalso
    have h0 : lo = T.leaf c := T.canon n (j := 0) (by simp [T.sz] at hn ⊢; omega) ht.2.2.2.1 trivial fun a => (ht.lo a).symm.trans (he (upd a v false))
    have h1 : hi = T.leaf c := T.canon n (j := 0) (by simp [T.sz] at hn ⊢; omega) ht.2.2.2.2 trivial fun a => (ht.hi a).symm.trans (he (upd a v true))
    exact ht.2.2.1 (h0.trans h1.symm)
   | node u l h =>
    rcases Nat.lt_trichotomy v u with hvu | hvu | hvu
    ·exfalso
     have hs' : (T.node u l h).Ok V (v + 1) := ⟨hvu, hs.2⟩
     have h0 : lo = T.node u l h := T.canon n (by simp [T.sz] at hn ⊢; omega) ht.2.2.2.1 hs' fun a => ((ht.lo a).symm.trans (he (upd a v false))).trans (hs'.eval_upd (by omega))
     have h1 : hi = T.node u l h := T.canon n (by simp [T.sz] at hn ⊢; omega) ht.2.2.2.2 hs' fun a => ((ht.hi a).symm.trans (he (upd a v true))).trans (hs'.eval_upd (by omega))
     exact ht.2.2.1 (h0.trans h1.symm)
    ·subst hvu
     have h0 : lo = l := T.canon n (by simp [T.sz] at hn ⊢; omega) ht.2.2.2.1 hs.2.2.2.1 fun a => ((ht.lo a).symm.trans (he (upd a v false))).trans (hs.lo a)
     have h1 : hi = h := T.canon n (by simp [T.sz] at hn ⊢; omega) ht.2.2.2.2 hs.2.2.2.2 fun a => ((ht.hi a).symm.trans (he (upd a v true))).trans (hs.hi a)
     rw [h0, h1]
    ·exfalso
     have ht' : (T.node v lo hi).Ok V (u + 1) := ⟨hvu, ht.2⟩
     have h0 : T.node v lo hi = l := T.canon n (by simp [T.sz] at hn ⊢; omega) ht' hs.2.2.2.1 fun a => ((ht'.eval_upd (by omega)).symm.trans (he (upd a u false))).trans (hs.lo a)
     have h1 : T.node v lo hi = h := T.canon n (by simp [T.sz] at hn ⊢; omega) ht' hs.2.2.2.2 fun a => ((ht'.eval_upd (by omega)).symm.trans (he (upd a u true))).trans (hs.hi a)
     exact hs.2.2.1 (h0.symm.trans h1)
theorem T.Ok.eq {V k j : Nat} {t s : T} (ht : t.Ok V k) (hs : s.Ok V j) (he : ∀ a, t.eval a = s.eval a) : t = s := T.canon _ (Nat.le_refl _) ht hs he
theorem T.Ok.level {V k : Nat} {t : T} (h : t.Ok V 0) (hk : ∀ a v b, v < k → t.eval (upd a v b) = t.eval a) : t.Ok V k := by
 cases t with
 | leaf b => trivial
 | node v lo hi =>
  refine ⟨Nat.le_of_not_lt fun hlt => h.2.2.1 (h.2.2.2.1.eq h.2.2.2.2 fun a => ?_), h.2⟩
  rw [← h.lo a, ← h.hi a, hk a v false hlt, hk a v true hlt]
def T.v : T → Nat
 | .leaf _ => 1000
 | .node v _ _ => v
def T.l : T → T
 | .leaf _ => .leaf false
 | .node _ l _ => l
def T.h : T → T
 | .leaf _ => .leaf false
 | .node _ _ h => h
def mkT (v : Nat) (lo hi : T) : T := if lo = hi then lo else .node v lo hi
def zhj (f : T) (v : Nat) (b : Bool) : T := if f.v = v then (if b then f.h else f.l) else f
theorem jpg {V v : Nat} {lo hi : T} (hv : v < V) (hl : lo.Ok V (v + 1)) (hh : hi.Ok V (v + 1)) : (mkT v lo hi).Ok V v := by
 unfold mkT
 split
 ·exact hl.mono (by omega)
 ·rename_i h; exact ⟨Nat.le_refl _, hv, h, hl, hh⟩
theorem zwn {v : Nat} {lo hi : T} (a : Nat → Bool) : (mkT v lo hi).eval a = if a v then hi.eval a else lo.eval a := by
 unfold mkT
 split
 ·rename_i h; rw [h]; simp
 ·rfl
theorem zhk {V k v : Nat} (hV : V ≤ 1000) {f : T} (hf : f.Ok V k) (hv : v ≤ f.v) (b : Bool) : (zhj f v b).Ok V (v + 1) := by
 cases f with
 | leaf c =>
  unfold zhj
  by_cases e : (T.leaf c).v = v
  ·rw [if_pos e]; cases b <;> trivial
  ·rw [if_neg e]; trivial
 | node u l h =>
  unfold zhj
  change v ≤ u at hv
  obtain ⟨h1, h2, h3, h4, h5⟩ := hf
  by_cases e : (T.node u l h).v = v
  ·rw [if_pos e]
   change u = v at e
   subst e
   cases b
   ·exact h4
   ·exact h5
  ·rw [if_neg e]
   change ¬ u = v at e
   exact ⟨by omega, h2, h3, h4, h5⟩
theorem zlf {V k v : Nat} {f : T} (hf : f.Ok V k) (hv : v ≤ f.v) (hV : v < 1000) (a : Nat → Bool) : (zhj f v (a v)).eval a = f.eval a := by
 cases f with
 | leaf c => unfold zhj; rw [if_neg (by simp only [T.v]; omega)]
 | node u l h =>
  unfold zhj
  by_cases e : (T.node u l h).v = v
  ·rw [if_pos e]
   change u = v at e
   subst e
   show _ = if a u then _ else _
   cases a u <;> rfl
  ·rw [if_neg e]
theorem T.Ok.v_ge {V k : Nat} {t : T} (h : t.Ok V k) (hk : k ≤ 1000) : k ≤ t.v := by
 cases t with
 | leaf b => exact hk
 | node v l r => exact h.1
theorem T.Ok.l_ok {V k : Nat} {t : T} (h : t.Ok V k) : t.l.Ok V 0 := by
 cases t with
 | leaf b => trivial
 | node v l r => exact h.2.2.2.1.mono (by omega)
theorem T.Ok.h_ok {V k : Nat} {t : T} (h : t.Ok V k) : t.h.Ok V 0 := by
 cases t with
 | leaf b => trivial
 | node v l r => exact h.2.2.2.2.mono (by omega)
def Ite (f g h t : T) : Prop := ∀ a, t.eval a = if f.eval a then g.eval a else h.eval a
theorem Ite.ok {V k : Nat} {f g h t : T} (hi : Ite f g h t) (ht : t.Ok V 0) (hf : f.Ok V k) (hg : g.Ok V k) (hh : h.Ok V k) : t.Ok V k :=
 ht.level fun a v b hv => by rw [hi, hi, hf.eval_upd hv, hg.eval_upd hv, hh.eval_upd hv]
theorem Ite.mk {V k v : Nat} {f g h lo hi : T} (hV : v < 1000) (hf : f.Ok V k) (hg : g.Ok V k) (hh : h.Ok V k) (vf : v ≤ f.v) (vg : v ≤ g.v) (vh : v ≤ h.v)
  (h0 : Ite (zhj f v false) (zhj g v false) (zhj h v false) lo) (h1 : Ite (zhj f v true) (zhj g v true) (zhj h v true) hi) : Ite f g h (mkT v lo hi) := fun a => by
 rw [zwn, ← zlf hf vf hV a, ← zlf hg vg hV a, ← zlf hh vh hV a]
 cases hv : a v with
 | false => exact h0 a
 | true => exact h1 a
def T.lf : T → Bool
 | .leaf _ => true
 | _ => false
def zbq (ts : List T) : List T := .leaf false :: .leaf true :: ts
def num (ts : List T) (t : T) : Nat := (zbq ts).idxOf t
structure RowOk (V : Nat) (ts : List T) : Prop where
 nd : (zbq ts).Nodup
 ok : ∀ t ∈ ts, t.Ok V 0
 ch : ∀ k, k < ts.length → (nth ts k).l ∈ zbq (ts.take k) ∧ (nth ts k).h ∈ zbq (ts.take k)
theorem zfp (ts us : List T) : zbq (ts ++ us) = zbq ts ++ us := rfl
theorem zew (ts : List T) : (zbq ts).length = 2 + ts.length := by simp [zbq]; omega
theorem zee {ts : List T} {t : T} (h : t ∈ zbq ts) : num ts t < 2 + ts.length := by rw [← zew]; exact List.idxOf_lt_length_iff.2 h
theorem zef {ts us : List T} {t : T} (h : t ∈ zbq ts) : num (ts ++ us) t = num ts t := by
 unfold num; rw [zfp, List.idxOf_append, if_pos h]
theorem zp2 {ts us : List T} {t : T} (h : t ∉ zbq ts) : num (ts ++ t :: us) t = 2 + ts.length := by
 unfold num; rw [zfp, List.idxOf_append, if_neg h, zew]; simp
theorem zp3 {ts : List T} {t : T} (h : t ∈ zbq ts) : nth (zbq ts) (num ts t) = t := by
 rw [zb9 (by rw [zew]; exact zee h)]; exact List.getElem_idxOf _
theorem zdl {ts : List T} {s t : T} (hs : s ∈ zbq ts) (ht : t ∈ zbq ts) (h : num ts s = num ts t) : s = t := by
 rw [← zp3 hs, h, zp3 ht]
theorem zjk (ts : List T) : num ts (.leaf false) = 0 := by simp [num, zbq]
theorem zp4 (ts : List T) : num ts (.leaf true) = 1 := by
 have : (T.leaf false == T.leaf true) = false := by decide
 simp [num, zbq, List.idxOf_cons, this]
theorem zhy (ts : List T) : T.leaf false ∈ zbq ts := by simp [zbq]
theorem zp5 (ts : List T) : T.leaf true ∈ zbq ts := by simp [zbq]
theorem jph (ts : List T) (b : Bool) : T.leaf b ∈ zbq ts := by cases b <;> simp [zbq]
theorem zg7 {ts us : List T} {t : T} (h : t ∈ zbq ts) : t ∈ zbq (ts ++ us) := by rw [zfp]; exact List.mem_append_left _ h
theorem zcb {ts us : List T} (hp : ts <+: us) {t : T} (h : t ∈ zbq ts) : t ∈ zbq us := by obtain ⟨r, rfl⟩ := hp; exact zg7 h
theorem zdr {ts us : List T} (hp : ts <+: us) {t : T} (h : t ∈ zbq ts) : num us t = num ts t := by obtain ⟨r, rfl⟩ := hp; exact zef h
theorem RowOk.okf {V : Nat} {ts : List T} (h : RowOk V ts) {t : T} (ht : t ∈ zbq ts) : t.Ok V 0 := by
 simp only [zbq, List.mem_cons] at ht
 rcases ht with rfl | rfl | ht
 ·trivial
 ·trivial
 ·exact h.ok t ht
theorem RowOk.chf {V : Nat} {ts : List T} (h : RowOk V ts) {t : T} (ht : t ∈ zbq ts) : t.l ∈ zbq ts ∧ t.h ∈ zbq ts := by
 simp only [zbq, List.mem_cons] at ht
 rcases ht with rfl | rfl | ht
 ·exact ⟨zhy _, zhy _⟩
 ·exact ⟨zhy _, zhy _⟩
 ·obtain ⟨k, hk, rfl⟩ := List.getElem_of_mem ht
  have := h.ch k hk
  rw [zb9 hk] at this
  have hp : ts.take k <+: ts := List.take_prefix _ _
  exact ⟨zcb hp this.1, zcb hp this.2⟩
theorem RowOk.node {V : Nat} {ts : List T} (h : RowOk V ts) {t : T} (ht : t ∈ ts) : ∃ v l r, t = .node v l r := by
 cases t with
 | leaf b =>
  exfalso
  have hn := h.nd
  simp only [zbq, List.nodup_cons, List.mem_cons, not_or] at hn
  cases b
  ·exact hn.1.2 ht
  ·exact hn.2.1 ht
 | node v l r => exact ⟨v, l, r, rfl⟩
theorem RowOk.snoc {V : Nat} {ts : List T} (h : RowOk V ts) {t : T} (ht : t.Ok V 0) (hn : t ∉ zbq ts) (hl : t.l ∈ zbq ts) (hh : t.h ∈ zbq ts) : RowOk V (ts ++ [t]) := by
 refine ⟨?_, fun s hs => ?_, fun k hk => ?_⟩
 ·rw [zfp]
  exact List.nodup_append.2 ⟨h.nd, by simp, fun a ha b hb => by rw [List.mem_singleton.1 hb]; exact fun e => hn (e ▸ ha)⟩
 ·rcases List.mem_append.1 hs with hs | hs
  ·exact h.ok s hs
  ·rw [List.mem_singleton.1 hs]; exact ht
 ·rw [List.length_append, List.length_singleton] at hk
  by_cases hlt : k < ts.length
  ·have := h.ch k hlt
   rw [zb9 hlt] at this
   rw [zb9 (by simp; omega), List.getElem_append_left hlt, List.take_append_of_le_length (by omega)]
   exact this
  ·have : k = ts.length := by omega
   subst this
   rw [zb9 (by simp), List.getElem_append_right (Nat.le_refl _), List.take_append_of_le_length (Nat.le_refl _), List.take_length]
   simpa using ⟨hl, hh⟩
theorem RowOk.nil (V : Nat) : RowOk V [] := ⟨by simp [zbq], fun t ht => (by cases ht), fun k hk => (by simp at hk)⟩
structure Nd where
 v : Nat
 lo : Nat
 hi : Nat
 deriving DecidableEq, Inhabited
def zjr (ts : List T) (t : T) : Nd := ⟨t.v, num ts t.l, num ts t.h⟩
def jco (ts : List T) : List Nd := (zbq ts).map (zjr ts)
theorem zai (ts : List T) : (jco ts).length = 2 + ts.length := by rw [jco, List.length_map, zew]
theorem zi7 {ts : List T} {t : T} (h : t ∈ zbq ts) : nth (jco ts) (num ts t) = zjr ts t := by
 unfold jco
 rw [zif (by rw [zew]; exact zee h), zp3 h]
theorem zwo {V : Nat} {ts us : List T} (hr : RowOk V ts) (hp : ts <+: us) {t : T} (h : t ∈ zbq ts) : zjr us t = zjr ts t := by
 obtain ⟨h1, h2⟩ := hr.chf h
 unfold zjr
 rw [zdr hp h1, zdr hp h2]
theorem jcp {V : Nat} {ts : List T} (h : RowOk V ts) {t : T} (hl : t.l ∈ zbq ts) (hh : t.h ∈ zbq ts) : jco (ts ++ [t]) = jco ts ++ [zjr ts t] := by
 unfold jco
 rw [zfp, List.map_append]
 congr 1
 ·exact List.map_congr_left fun s hs => zwo h (List.prefix_append _ _) hs
 ·simp only [List.map_cons, List.map_nil]
  unfold zjr
  rw [zef hl, zef hh]
theorem ji3 {V : Nat} {ts : List T} (h : RowOk V ts) {s t : T} (hs : s ∈ ts) (ht : t.lf = false) (hl : t.l ∈ zbq ts) (hh : t.h ∈ zbq ts) (he : zjr ts s = zjr ts t) : s = t := by
 obtain ⟨v, l, r, rfl⟩ := h.node hs
 obtain ⟨h1, h2⟩ := h.chf (List.mem_cons_of_mem _ (List.mem_cons_of_mem _ hs))
 cases t with
 | leaf b => cases ht
 | node u l' r' =>
  unfold zjr at he
  injection he with e1 e2 e3
  simp only [T.v] at e1
  have e4 : l = l' := zdl h1 hl e2
  have e5 : r = r' := zdl h2 hh e3
  rw [e1, e4, e5]
end Go.Proofs.Ytignimmnnccblaa
