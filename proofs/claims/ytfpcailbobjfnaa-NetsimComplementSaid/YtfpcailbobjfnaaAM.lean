/- Of no program: maps of the call's own, in the abstract machine. -/
import Derived.Test.YtfpcailbobjfnaaA13
import Derived.Maps.Keyed
set_option linter.unusedVariables false
set_option linter.unusedSimpArgs false
namespace Go.Proofs.Ytfpcailbobjfnaa
open Go Go.RowKit
/-! ### Keys -/
def vS : Value → Value → Bool
  | .bool a, .bool b => a == b
  | .int j a, .int k b => decide (j = k) && decide (a = b)
  | .string a, .string b => a.data.toList == b.data.toList
  | _, _ => false
def vSk : Value → Bool
  | .bool _ | .int _ _ | .string _ => true
  | _ => false
def vAll : List Value → List Value → Bool
  | [], [] => true
  | x :: l, y :: m => vS x y && vAll l m
  | _, _ => false
def vEq : Value → Value → Bool
  | .agg a, .agg b => vAll a.toList b.toList
  | a, b => vS a b
def vKey : Value → Bool
  | .agg a => a.toList.all vSk
  | v => vSk v
theorem vS_eq {a b : Value} (h : vS a b = true) : a = b := by
  unfold vS at h
  split at h
  · simpa using h
  · simp only [Bool.and_eq_true, decide_eq_true_eq] at h; rw [h.1, h.2]
  · rename_i a b
    obtain ⟨⟨a⟩⟩ := a
    obtain ⟨⟨b⟩⟩ := b
    simp only [beq_iff_eq] at h
    rw [h]
  · cases h
theorem vS_self {a : Value} (h : vSk a = true) : vS a a = true := by
  unfold vSk at h
  split at h <;> first | (simp [vS]; done) | cases h
theorem vAll_eq : ∀ {a b : List Value}, vAll a b = true → a = b
  | [], [], _ => rfl
  | x :: l, y :: m, h => by
    simp only [vAll, Bool.and_eq_true] at h
    rw [vS_eq h.1, vAll_eq h.2]
  | [], _ :: _, h => by cases h
  | _ :: _, [], h => by cases h
theorem vAll_self : ∀ {a : List Value}, a.all vSk = true → vAll a a = true
  | [], _ => rfl
  | x :: l, h => by
    simp only [List.all_cons, Bool.and_eq_true] at h
    simp only [vAll, vS_self h.1, vAll_self h.2, Bool.and_self]
theorem vEq_eq {a b : Value} (h : vEq a b = true) : a = b := by
  unfold vEq at h
  split at h
  · rename_i a b
    obtain ⟨a⟩ := a
    obtain ⟨b⟩ := b
    have : a = b := vAll_eq h
    rw [this]
  · exact vS_eq h
theorem vEq_self {a : Value} (h : vKey a = true) : vEq a a = true := by
  unfold vKey at h
  unfold vEq
  split at h
  · exact vAll_self h
  · split
    · cases h
    · exact vS_self h
theorem vEq_iff {a k : Value} (h : vKey k = true) : vEq a k = true ↔ a = k := ⟨vEq_eq, fun e => by subst e; exact vEq_self h⟩
def valsA : List AV → Option (List Value)
  | [] => some []
  | .d (.val v) :: l => (valsA l).map (v :: ·)
  | _ :: _ => none
/-- A value that is plain, or made of plain parts. -/
def keyV : AV → Option Value
  | .d (.val v) => some v
  | .d (.agg ds) => (valsA (ds.map .d)).map fun l => .agg l.toArray
  | .agg xs => (valsA xs).map fun l => .agg l.toArray
  | _ => none
section
variable {P : Program} {c : Cx} {τ : Fr} {a : Act} {w w' : World} {pl pl' : List (Option (Nat × Nat))} {H : AHeap} {sh : List (Nat × Nat)} {own : Nat → Prop}
theorem valsA_rd : ∀ {xs : List AV} {l : List Value} {f : Nat → Value}, valsA xs = some l → (∀ j x, xs[j]? = some x → Rd w pl own x (f j)) → l.length = xs.length ∧ ∀ j u, l[j]? = some u → f j = u
  | [], l, f, h, _ => by simp only [valsA] at h; cases h; exact ⟨rfl, fun j u hj => by simp at hj⟩
  | x :: xs, l, f, h, hx => by
    unfold valsA at h
    split at h
    · rename_i e; cases e
    · rename_i v l' e
      cases e
      obtain ⟨m, hm, rfl⟩ := Option.map_eq_some_iff.1 h
      obtain ⟨h1, h2⟩ := valsA_rd (f := fun j => f (j + 1)) hm (fun j y hj => hx (j + 1) y hj)
      refine ⟨by simp [h1], fun j u hj => ?_⟩
      cases j with
      | zero =>
        have := hx 0 _ rfl
        cases this with | d _ _ h => generalize f 0 = q at h hj; cases h; simpa using hj
      | succ j => exact h2 j u (by simpa using hj)
    · cases h
theorem keyV_rd {x : AV} {v u : Value} (h : keyV x = some v) (hx : Rd w pl own x u) : u = v := by
  have agg : ∀ {xs : List AV} {l : List Value} {vs : Array Value}, valsA xs = some l → vs.size = xs.length → (∀ j x, xs[j]? = some x → Rd w pl own x (vs.getD j undef)) → vs = l.toArray := fun {xs l vs} hl hs hr => by
    obtain ⟨h1, h2⟩ := valsA_rd (f := fun j => vs.getD j undef) hl hr
    apply Array.ext
    · simp; omega
    · intro i hi hj
      have := h2 i (l[i]'(by omega)) (List.getElem?_eq_getElem _)
      rw [Array.getD, dif_pos hi] at this
      simpa using this
  unfold keyV at h
  split at h
  · cases h; cases hx with | d _ _ hx => cases hx; rfl
  · obtain ⟨l, hl, rfl⟩ := Option.map_eq_some_iff.1 h
    cases hx with | d _ _ hx =>
    cases hx with | agg _ vs hs hr =>
    have := agg (vs := vs) hl (by simpa using hs) fun j x hj => by
      rw [List.getElem?_map, Option.map_eq_some_iff] at hj
      obtain ⟨y, hy, rfl⟩ := hj
      exact .d _ _ (hr j y hy)
    rw [this]
  · obtain ⟨l, hl, rfl⟩ := Option.map_eq_some_iff.1 h
    cases hx with | agg _ vs hs hr =>
    have := agg (vs := vs) hl hs hr
    rw [this]
  · cases h
/-! ### Entries -/
def findM (key : Value) : List (Value × Nat × AV) → Nat → Option (Nat × AV)
  | [], _ => none
  | e :: l, i => if vEq e.1 key then some (i, e.2.2) else findM key l (i + 1)
theorem findM_some {key : Value} : ∀ {es : List (Value × Nat × AV)} {i j : Nat} {x : AV}, findM key es i = some (j, x) → ∃ q n, j = i + q ∧ es[q]? = some (key, n, x)
  | [], _, _, _, h => by cases h
  | e :: l, i, j, x, h => by
    unfold findM at h
    split at h
    · rename_i he
      cases h
      exact ⟨0, e.2.1, rfl, by rw [← vEq_eq he]; rfl⟩
    · obtain ⟨q, n, h1, h2⟩ := findM_some h
      exact ⟨q + 1, n, by omega, by simpa using h2⟩
theorem findM_none {key : Value} (hk : vKey key = true) : ∀ {es : List (Value × Nat × AV)} {i : Nat}, findM key es i = none → ∀ e ∈ es, e.1 ≠ key
  | [], _, _, e, he => by cases he
  | e :: l, i, h, e', he => by
    unfold findM at h
    split at h
    · cases h
    · rename_i hne
      rcases List.mem_cons.1 he with rfl | he
      · exact fun h' => hne ((vEq_iff hk).2 h')
      · exact findM_none hk h e' he
/-- Every key is one that the program can read. -/
def keysOk (P : Program) (kt : TypeId) (es : List (Value × Nat × AV)) : Bool := es.all fun e => (keyOf P kt e.1).isSome
def mapO (P : Program) (t : TypeId) : Option (TypeId × TypeId) := match P.underlying t with | some (.map k e) => some (k, e) | _ => none
theorem mapO_spec {t k e : TypeId} (h : mapO P t = some (k, e)) : P.underlying t = some (.map k e) := by
  unfold mapO at h
  split at h
  · rename_i hu; cases h; exact hu
  · cases h
def zvA : Value → AV
  | .agg vs => .agg (vs.toList.map fun v => .d (.val v))
  | v => .d (.val v)
def zvO (P : Program) (t : TypeId) : Option AV := ((P.info? t).bind (·.zero)).map zvA
theorem zvA_rd (v : Value) : Rd w pl own (zvA v) v := by
  unfold zvA
  split
  · rename_i vs
    refine .agg _ _ (by simp) fun j x hj => ?_
    rw [List.getElem?_map, Option.map_eq_some_iff] at hj
    obtain ⟨y, hy, rfl⟩ := hj
    have : vs.getD j undef = y := by
      rw [Array.getElem?_toList] at hy
      rw [Array.getD_eq_getD_getElem?, hy]; rfl
    rw [this]
    exact .d _ _ (.val _)
  · exact .d _ _ (.val _)
theorem zvO_run {t : TypeId} {z : AV} (h : zvO P t = some z) (w : World) : ∃ v, (zeroValue t).run P w = .ok v w ∧ ∀ w pl own, Rd w pl own z v := by
  obtain ⟨v, hv, rfl⟩ := Option.map_eq_some_iff.1 h
  obtain ⟨i, hi, hz⟩ := Option.bind_eq_some_iff.1 hv
  exact ⟨v, by simp [zeroValue, Go.run_typeInfo (P := P) w hi, hz, Result.andThen], fun _ _ _ => zvA_rd v⟩
theorem MapRd.keys {kt : TypeId} {ms : Array MapEntry} {es : List (Value × Nat × AV)} (h : MapRd w pl own ms es) (hk : keysOk P kt es = true) : ∀ e ∈ ms.toList, ∃ l, keyOf P kt e.key = some l := fun e he => by
  obtain ⟨j, hj⟩ := List.mem_iff_getElem?.1 he
  rw [Array.getElem?_toList] at hj
  have hlt := (Array.getElem?_eq_some_iff.1 hj).1
  obtain ⟨⟨k, n, x⟩, hx⟩ : ∃ q, es[j]? = some q := ⟨_, List.getElem?_eq_getElem (by have := h.1; omega)⟩
  obtain ⟨h1, _, _⟩ := h.2.2 j e k n x hj hx
  rw [h1]
  have := List.all_eq_true.1 hk _ (List.mem_of_getElem? hx)
  exact Option.isSome_iff_exists.1 this
/-- What the program finds, the abstract map has. -/
theorem MapRd.find {kt : TypeId} {ms : Array MapEntry} {es : List (Value × Nat × AV)} (h : MapRd w pl own ms es) (K : Maps.Keyed P kt) (hks : keysOk P kt es = true) {key : Value} (hk : vKey key = true) (ho : (keyOf P kt key).isSome = true) (w0 : World) :
    (findM key es 0 = none ∧ (Instr.findKey kt key ms.toList).run P w0 = .ok none w0 ∧ ∀ e ∈ es, e.1 ≠ key) ∨
      ∃ j e n x, findM key es 0 = some (j, x) ∧ (Instr.findKey kt key ms.toList).run P w0 = .ok (some (j, e.val)) w0 ∧ ms[j]? = some e ∧ es[j]? = some (key, n, x) ∧ e.key = key ∧ e.born = n ∧ Rd w pl own x e.val := by
  obtain ⟨lk, hlk⟩ := Option.isSome_iff_exists.1 ho
  have hK := K.find w0 hlk ms.toList (h.keys hks)
  have back : ∀ (q n : Nat) (x : AV), es[q]? = some (key, n, x) → ∃ e, ms[q]? = some e ∧ e.key = key ∧ e.born = n ∧ Rd w pl own x e.val := fun q n x hq => by
    have hlt := (List.getElem?_eq_some_iff.1 hq).1
    obtain ⟨e, he⟩ : ∃ e, ms[q]? = some e := ⟨_, Array.getElem?_eq_getElem (by have := h.1; omega)⟩
    exact ⟨e, he, h.2.2 q e key n x he hq⟩
  cases hf : findM key es 0 with
  | none =>
    have hne := findM_none hk hf
    rcases hK with ⟨h1, _⟩ | ⟨j, e, h1, h2, h3⟩
    · exact .inl ⟨rfl, h1, hne⟩
    · rw [Array.getElem?_toList] at h2
      have hlt := (Array.getElem?_eq_some_iff.1 h2).1
      obtain ⟨⟨k, n, x⟩, hx⟩ : ∃ q, es[j]? = some q := ⟨_, List.getElem?_eq_getElem (by have := h.1; omega)⟩
      exact absurd ((h.2.2 j e k n x h2 hx).1.symm.trans h3) (hne _ (List.mem_of_getElem? hx))
  | some jx =>
    obtain ⟨j, x⟩ := jx
    obtain ⟨q, n, hq, hes⟩ := findM_some hf
    rw [Nat.zero_add] at hq
    subst hq
    obtain ⟨e, he, b1, b2, b3⟩ := back j n x hes
    rcases hK with ⟨_, h2⟩ | ⟨j', e', h1, h2, h3⟩
    · exact absurd b1 (h2 e (by rw [← Array.getElem?_toList] at he; exact List.mem_of_getElem? he))
    · rw [Array.getElem?_toList] at h2
      have hlt := (Array.getElem?_eq_some_iff.1 h2).1
      obtain ⟨⟨k', n', x'⟩, hx'⟩ : ∃ q, es[j']? = some q := ⟨_, List.getElem?_eq_getElem (by have := h.1; omega)⟩
      have hk' : k' = key := (h.2.2 j' e' k' n' x' h2 hx').1.symm.trans h3
      have hjj : j' = j := by
        have g1 : (es.map (·.1))[j']? = some key := by rw [List.getElem?_map, hx', hk']; rfl
        have g2 : (es.map (·.1))[j]? = some key := by rw [List.getElem?_map, hes]; rfl
        have hnd := List.pairwise_iff_getElem.1 h.2.1
        obtain ⟨l1, g1⟩ := List.getElem?_eq_some_iff.1 g1
        obtain ⟨l2, g2⟩ := List.getElem?_eq_some_iff.1 g2
        rcases Nat.lt_trichotomy j' j with hl | hl | hl
        · exact absurd (g1.trans g2.symm) (hnd j' j l1 l2 hl)
        · exact hl
        · exact absurd (g2.trans g1.symm) (hnd j j' l2 l1 hl)
      subst hjj
      rw [he] at h2; cases h2
      exact .inr ⟨j', e, n, x, rfl, h1, he, hes, b1, b2, b3⟩
/-! ### Looking up -/
def lookR (ok : Bool) (z : AV) : Option (Nat × AV) → AV
  | some (_, x) => if ok then .tup [x, .d (.val (.bool true))] else x
  | none => if ok then .tup [z, .d (.val (.bool false))] else z
def entriesOf (H : AHeap) (N0 : Nat) : AV → Option (List (Value × Nat × AV))
  | .d (.val (.map none)) => some []
  | .om id => if id < N0 then (match H[id]? with | some (.map es _) => some es | _ => none) else none
  | _ => none
def LookupQ (P : Program) (N0 : Nat) (H : AHeap) (t : TypeId) (m key : AV) (ok : Bool) (x : AV) : Prop :=
  ∃ kt et z v es, mapO P t = some (kt, et) ∧ Maps.Keyed P kt ∧ zvO P et = some z ∧ keyV key = some v ∧ vKey v = true ∧ (keyOf P kt v).isSome = true ∧ entriesOf H N0 m = some es ∧ keysOk P kt es = true ∧ x = lookR ok z (findM v es 0)
theorem LookupQ.run {N0 : Nat} {t : TypeId} {m key x : AV} {ok : Bool} (hq : LookupQ P N0 H t m key ok x) {E : Nat → Prop} (hr : RelH E w pl H sh) {u k : Value} (hm : Rd w pl (ownB E H pl) m u) (hk : Rd w pl (ownB E H pl) key k) :
    ∃ v, (Instr.lookup t u k ok).run P w = .ok v w ∧ Rd w pl (ownB E H pl) x v := by
  obtain ⟨kt, et, z, v, es, ht, K, hz, hkv, hvk, hko, hes, hks, rfl⟩ := hq
  obtain rfl := keyV_rd hkv hk
  obtain ⟨lk, hlk⟩ := Option.isSome_iff_exists.1 hko
  obtain ⟨zv, hzr, hzd⟩ := zvO_run hz w
  have two : ∀ (y : AV) (q : Value) (b : Bool), Rd w pl (ownB E H pl) y q → Rd w pl (ownB E H pl) (if ok then .tup [y, .d (.val (.bool b))] else y) (if ok then .tuple #[q, .bool b] else q) := fun y q b hy => by
    cases ok
    · exact hy
    · refine .tup _ _ rfl fun j x hj => ?_
      rcases j with _ | _ | j
      · cases hj; exact hy
      · cases hj; exact .d _ _ (.val _)
      · simp at hj
  unfold entriesOf at hes
  split at hes
  · cases hes
    cases hm with | d _ _ hm =>
    cases hm
    have hf := K.find w hlk [] (fun e he => by cases he)
    rcases hf with ⟨h1, _⟩ | ⟨j, e, _, h2, _⟩
    · refine ⟨if ok then .tuple #[zv, .bool false] else zv, ?_, two z zv false (hzd _ _ _)⟩
      simp [Instr.lookup, run_underlying (mapO_spec ht), K.check w _ hlk, h1, hzr, Result.andThen]
    · simp at h2
  · rename_i id
    split at hes
    · split at hes
      · rename_i es' clock hH
        cases hes
        obtain ⟨b, base, ms, hp, hg, hmr⟩ := hr.obj _ _ hH
        cases hm with | om _ b' base' hp' =>
        rw [hp] at hp'; cases hp'
        rcases hmr.find K hks hvk hko w with ⟨h1, h2, _⟩ | ⟨j, e, n, y, h1, h2, _, _, _, _, h3⟩
        · refine ⟨if ok then .tuple #[zv, .bool false] else zv, ?_, by rw [h1]; exact two z zv false (hzd _ _ _)⟩
          simp [Instr.lookup, run_underlying (mapO_spec ht), MapKept.run_getObj_map hg, K.check w _ hlk, h2, hzr, Result.andThen]
        · refine ⟨if ok then .tuple #[e.val, .bool true] else e.val, ?_, by rw [h1]; exact two y e.val true h3⟩
          simp [Instr.lookup, run_underlying (mapO_spec ht), MapKept.run_getObj_map hg, K.check w _ hlk, h2, Result.andThen]
      · cases hes
    · cases hes
  · cases hes
end
end Go.Proofs.Ytfpcailbobjfnaa
