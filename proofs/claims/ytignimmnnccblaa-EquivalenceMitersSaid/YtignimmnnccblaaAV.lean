/- Of no program: maps whose values are plain. -/
import Derived.Test.YtignimmnnccblaaAU
import Derived.Test.YtignimmnnccblaaAY
set_option linter.unusedVariables false
set_option linter.unusedSimpArgs false
namespace Go.Proofs.Ytignimmnnccblaa
open Go Go.RowKit
abbrev Mp := List (Value × Nat × Value) × Nat
def mE (s : List (Value × Nat × Value)) : List (Value × Nat × AV) := s.map fun e => (e.1, e.2.1, .d (.val e.2.2))
def mO (μ : Mp) : AObj := .map (mE μ.1) μ.2
def mD (μ : Mp) : D := .mp μ.1 μ.2
def fiM (k : Value) (s : List (Value × Nat × Value)) : Option Nat := s.findIdx? fun e => vEq e.1 k
def zg5 (k : Value) (μ : Mp) : Option Value := (μ.1.find? fun e => vEq e.1 k).map (·.2.2)
def znz (k v : Value) (μ : Mp) : Mp := match fiM k μ.1 with
  | some i => (μ.1.modify i fun q => (q.1, q.2.1, v), μ.2)
  | none => (μ.1 ++ [(k, μ.2, v)], μ.2 + 1)
section
variable {P : Program} {KT : TypeId → Bool} {H : zar} {ρ : Operand → AV} {N : Nat}
/-- The map's type, with its zero value. -/
def mtB (P : Program) (KT : TypeId → Bool) (t : TypeId) : Option Value := match zg0 P t with
  | some (kt, et) => if KT kt then (match zvO P et with | some (.d (.val z)) => some z | _ => none) else none
  | none => none
/-- A key that the program can read. -/
def zpz (P : Program) (t : TypeId) (k : Value) : Prop := zji k = true ∧ ∀ kt et, zg0 P t = some (kt, et) → (keyOf P kt k).isSome = true
structure OkM (P : Program) (t : TypeId) (μ : Mp) : Prop where
  keys : ∀ e ∈ μ.1, zpz P t e.1
  born : ∀ e ∈ μ.1, e.2.1 < μ.2
theorem OkM.nil (t : TypeId) (n : Nat) : OkM P t ([], n) := ⟨fun e he => (by cases he), fun e he => (by cases he)⟩
theorem zwe {k : Value} {s : List (Value × Nat × Value)} (hk : zji k = true) : fiM k s = none ↔ ∀ e ∈ s, e.1 ≠ k := by
  unfold fiM
  rw [List.findIdx?_eq_none_iff]
  constructor
  · intro h e he hek
    have := h e he
    rw [(zmw hk).2 hek] at this; cases this
  · intro h e he
    cases hv : vEq e.1 k with
    | false => rfl
    | true => exact absurd ((zmw hk).1 hv) (h e he)
theorem zse {k : Value} {μ : Mp} (hk : zji k = true) : zg5 k μ = none ↔ ∀ e ∈ μ.1, e.1 ≠ k := by
  unfold zg5
  rw [Option.map_eq_none_iff, List.find?_eq_none]
  constructor
  · intro h e he hek
    exact h e he ((zmw hk).2 hek)
  · intro h e he hv
    exact h e he ((zmw hk).1 hv)
theorem zkj {k v : Value} {μ : Mp} (h : zg5 k μ = some v) : ∃ n, (k, n, v) ∈ μ.1 := by
  unfold zg5 at h
  obtain ⟨e, he, rfl⟩ := Option.map_eq_some_iff.1 h
  have h1 := List.find?_some he
  have h2 := List.mem_of_find?_eq_some he
  have h3 : e.1 = k := zoa (by simpa using h1)
  exact ⟨e.2.1, by rw [← h3]; exact h2⟩
theorem zp0 (k : Value) : ∀ (s : List (Value × Nat × Value)) (i : Nat), zdu k (mE s) i = (s.findIdx? fun e => vEq e.1 k).map fun j => (i + j, .d (.val (s.getD j (undef, 0, undef)).2.2))
  | [], i => rfl
  | p :: s, i => by
    show (if vEq p.1 k then _ else _) = _
    rw [List.findIdx?_cons]
    by_cases hp : vEq p.1 k
    · simp [hp]
    · simp only [hp, Bool.false_eq_true, if_false, Option.map_map]
      have ih := zp0 k s (i + 1)
      unfold mE at ih
      rw [ih]
      congr 1
      funext j
      simp only [Function.comp, List.getD_cons_succ]
      rw [show i + 1 + j = i + (j + 1) by omega]
theorem zsf (k : Value) (μ : Mp) : (zdu k (mE μ.1) 0).map (·.2) = (zg5 k μ).map fun v => AV.d (.val v) := by
  rw [zp0]
  unfold zg5
  generalize μ.1 = s
  induction s with
  | nil => rfl
  | cons p s ih =>
    rw [List.findIdx?_cons, List.find?_cons]
    by_cases hp : vEq p.1 k
    · simp [hp]
    · simp only [hp, Bool.false_eq_true, if_false, Option.map_map] at ih ⊢
      simpa [Function.comp_def] using ih
theorem zsg (s : List (Value × Nat × Value)) (i : Nat) (v : Value) : (mE s).modify i (fun q => (q.1, q.2.1, AV.d (.val v))) = mE (s.modify i fun q => (q.1, q.2.1, v)) := by
  apply List.ext_getElem?
  intro j
  unfold mE
  rw [List.getElem?_modify, List.getElem?_map, List.getElem?_map, List.getElem?_modify]
  cases s[j]? with
  | none => rfl
  | some p => by_cases h : i = j <;> simp [h]
theorem OkM.kb {t kt et : TypeId} {μ : Mp} (h : OkM P t μ) (hm : zg0 P t = some (kt, et)) : zd2 P kt (mE μ.1) = true := by
  refine List.all_eq_true.2 fun e he => ?_
  obtain ⟨p, hp, rfl⟩ := List.mem_map.1 he
  exact (h.keys p hp).2 kt et hm
theorem OkM.put {t : TypeId} {μ : Mp} (h : OkM P t μ) {k v : Value} (hk : zpz P t k) : OkM P t (znz k v μ) := by
  unfold znz
  split
  · rename_i i hi
    refine ⟨fun e he => ?_, fun e he => ?_⟩ <;>
      (obtain ⟨j, hj⟩ := List.getElem?_of_mem he
       simp only at hj
       rw [List.getElem?_modify, Option.map_eq_map, Option.map_eq_some_iff] at hj
       obtain ⟨q, hq, rfl⟩ := hj
       have hm := List.mem_of_getElem? hq
       split)
    · exact h.keys q hm
    · exact h.keys q hm
    · exact h.born q hm
    · exact h.born q hm
  · refine ⟨fun e he => ?_, fun e he => ?_⟩ <;> rcases List.mem_append.1 he with he | he
    · exact h.keys e he
    · rw [List.mem_singleton.1 he]; exact hk
    · exact Nat.lt_succ_of_lt (h.born e he)
    · rw [List.mem_singleton.1 he]; exact Nat.lt_succ_self _
theorem zwf {k v : Value} (hv : vEq k k = true) : ∀ {s : List (Value × Nat × Value)} {i : Nat}, (s.findIdx? fun e => vEq e.1 k) = some i → ((s.modify i fun q => (q.1, q.2.1, v)).find? fun e => vEq e.1 k).map (·.2.2) = some v
  | [], i, h => by cases h
  | p :: s, i, h => by
    rw [List.findIdx?_cons] at h
    split at h
    · rename_i hp
      cases h
      simp [hp]
    · rename_i hp
      obtain ⟨j, hj, rfl⟩ := Option.map_eq_some_iff.1 h
      rw [List.modify_succ_cons, List.find?_cons]
      simp only [hp]
      exact zwf hv hj
theorem zng {k k' v : Value} (hne : ∀ q : Value, vEq q k = true → vEq q k' = false) : ∀ {s : List (Value × Nat × Value)} {i : Nat}, (s.findIdx? fun e => vEq e.1 k) = some i → ((s.modify i fun q => (q.1, q.2.1, v)).find? fun e => vEq e.1 k') = (s.find? fun e => vEq e.1 k')
  | [], i, h => by cases h
  | p :: s, i, h => by
    rw [List.findIdx?_cons] at h
    split at h
    · rename_i hp
      cases h
      simp [hne p.1 hp]
    · rename_i hp
      obtain ⟨j, hj, rfl⟩ := Option.map_eq_some_iff.1 h
      rw [List.modify_succ_cons, List.find?_cons, List.find?_cons, zng hne hj]
theorem zge {k k' v : Value} (hk : zji k = true) (hk' : zji k' = true) (μ : Mp) [Decidable (k' = k)] : zg5 k' (znz k v μ) = if k' = k then some v else zg5 k' μ := by
  unfold znz fiM
  split
  · rename_i i hi
    by_cases he : k' = k
    · subst he
      rw [if_pos rfl]
      exact zwf (zl9 hk) hi
    · rw [if_neg he]
      unfold zg5
      rw [zng (fun q hq => ?_) hi]
      cases hq' : vEq q k' with
      | false => rfl
      | true => exact absurd ((zoa hq').symm.trans (zoa hq)) he
  · rename_i hi
    unfold zg5
    simp only [List.find?_append]
    by_cases he : k' = k
    · subst he
      rw [if_pos rfl]
      have : (μ.1.find? fun e => vEq e.1 k') = none := List.find?_eq_none.2 fun e hm hv => by
        have := List.findIdx?_eq_none_iff.1 hi e hm
        rw [hv] at this; cases this
      simp [this, zl9 hk]
    · rw [if_neg he]
      have hn : vEq k k' = false := by
        cases hq : vEq k k' with
        | false => rfl
        | true => exact absurd (zoa hq).symm he
      cases (μ.1.find? fun e => vEq e.1 k') <;> simp [hn]
/-! ### The operations -/
def muO (P : Program) (KT : TypeId → Bool) (t : TypeId) (id : Nat) (v : Value) (y : AV) (H : zar) (o : Option AObj) : Option (AV × zar) :=
  match zg0 P t with
  | some (kt, _) => (match o with
    | some (.map es clock) => if KT kt && zji v && (keyOf P kt v).isSome && zd2 P kt es && true then
        some (.d (.val undef), H.set id (match zdu v es 0 with | some (i, _) => .map (es.modify i fun q => (q.1, q.2.1, y)) clock | none => .map (es ++ [(v, clock, y)]) (clock + 1))) else none
    | _ => none)
  | none => none
def muK (P : Program) (KT : TypeId → Bool) (t : TypeId) (m : AV) (k : Option Value) (y : AV) (H : zar) : Option (AV × zar) :=
  match m, k with
  | .om id, some v => muO P KT t id v y H (H[id]?)
  | _, _ => none
theorem zwg {t : TypeId} {m k y : Operand} : zhx P KT ρ (.mapUpdate t m k y) H [] = muK P KT t (ρ m) (zk4 (ρ k)) (ρ y) H := by
  unfold zhx muK muO
  simp only [List.all_nil, Bool.and_true]
  cases ρ m <;> cases zg0 P t <;> cases zk4 (ρ k) <;> rfl
theorem zwh {t : TypeId} {m k y : Operand} : zhx P KT ρ (.insert t m k y) H [] = muK P KT t (ρ m) (zk4 (ρ k)) (ρ y) H := by
  unfold zhx muK muO
  simp only [List.all_nil, Bool.and_true]
  cases ρ m <;> cases zg0 P t <;> cases zk4 (ρ k) <;> rfl
theorem jis {t : TypeId} {id : Nat} {v : Value} {y : AV} : muK P KT t (.om id) (some v) y H = muO P KT t id v y H (H[id]?) := rfl
theorem zmj {t : TypeId} {z : Value} (h : mtB P KT t = some z) : ∃ kt et, zg0 P t = some (kt, et) ∧ KT kt = true ∧ zvO P et = some (.d (.val z)) := by
  unfold mtB at h
  split at h
  · rename_i kt et hm
    split at h
    · rename_i hk
      split at h
      · cases h; exact ⟨kt, et, hm, hk, by assumption⟩
      · cases h
    · cases h
  · cases h
theorem jcg {t : TypeId} {id : Nat} {v u z : Value} {μ : Mp} (ht : mtB P KT t = some z) (hv : zpz P t v) (hμ : OkM P t μ) : muO P KT t id v (.d (.val u)) H (some (mO μ)) = some (.d (.val undef), H.set id (mO (znz v u μ))) := by
  obtain ⟨kt, et, hm, h1, hz⟩ := zmj ht
  unfold muO mO
  simp only [hm, h1, hv.1, hv.2 kt et hm, hμ.kb hm, Bool.and_self, if_true, zp0]
  unfold znz fiM
  cases hf : μ.1.findIdx? fun e => vEq e.1 v with
  | none => simp [mE]
  | some i => simp [zsg]
/-- An entry is made (the key was not there), then set. -/
def meO (P : Program) (KT : TypeId → Bool) (t : TypeId) (id : Nat) (v : Value) (H : zar) (o : Option AObj) : Option (AV × zar) :=
  match zg0 P t with
  | some (kt, et) => (match o, zvO P et with
      | some (.map es clock), some z => if KT kt && zji v && (keyOf P kt v).isSome && zd2 P kt es then
          (match zdu v es 0 with
          | some (i, y) => (es[i]?).map fun q => (.tup [y, .d (.val (.int .i64 q.2.1))], H.set id (.map es clock))
          | none => some (.tup [z, .d (.val (.int .i64 clock))], H.set id (.map (es ++ [(v, clock, z)]) (clock + 1)))) else none
      | _, _ => none)
  | none => none
def meK (P : Program) (KT : TypeId → Bool) (t : TypeId) (m : AV) (k : Option Value) (H : zar) : Option (AV × zar) :=
  match m, k with
  | .om id, some v => meO P KT t id v H (H[id]?)
  | _, _ => none
theorem zwi {t : TypeId} {m k : Operand} : zhx P KT ρ (.mapEntry t m k) H [] = meK P KT t (ρ m) (zk4 (ρ k)) H := by
  unfold zhx meK meO
  simp only [List.all_nil, Bool.and_true]
  cases ρ m <;> cases zg0 P t <;> cases zk4 (ρ k) <;> rfl
theorem jit {t : TypeId} {id : Nat} {v : Value} : meK P KT t (.om id) (some v) H = meO P KT t id v H (H[id]?) := rfl
theorem jsy {t : TypeId} {id : Nat} {v z : Value} {μ : Mp} (ht : mtB P KT t = some z) (hv : zpz P t v) (hμ : OkM P t μ) (hn : zg5 v μ = none) : meO P KT t id v H (some (mO μ)) = some (.tup [.d (.val z), .d (.val (.int .i64 μ.2))], H.set id (mO (μ.1 ++ [(v, μ.2, z)], μ.2 + 1))) := by
  obtain ⟨kt, et, hm, h1, hz⟩ := zmj ht
  unfold meO mO
  simp only [hm, hz, h1, hv.1, hv.2 kt et hm, hμ.kb hm, Bool.and_self, if_true, zp0]
  have : (μ.1.findIdx? fun e => vEq e.1 v) = none := (zwe hv.1).2 ((zse hv.1).1 hn)
  simp [this, mE]
def esK (m s y : AV) (H : zar) : Option (AV × zar) :=
  match m, ixO s with
  | .om id, some n => (match H[id]? with
      | some (.map es clock) => (es.findIdx? (fun q => (q.2.1 : Int) == n)).map fun i => (.d (.val undef), H.set id (.map (es.modify i fun q => (q.1, q.2.1, y)) clock))
      | _ => none)
  | _, _ => none
theorem zwj {t : TypeId} {m s y : Operand} : zhx P KT ρ (.entryStore t m s y) H [] = esK (ρ m) (ρ s) (ρ y) H := by
  unfold zhx esK
  simp only [List.all_nil, Bool.and_true]
  cases ρ m <;> cases ixO (ρ s) <;> rfl
def esN (id : Nat) (n : Int) (y : AV) (H : zar) (o : Option AObj) : Option (AV × zar) :=
  match o with
  | some (.map es clock) => (es.findIdx? (fun q => (q.2.1 : Int) == n)).map fun i => (.d (.val undef), H.set id (.map (es.modify i fun q => (q.1, q.2.1, y)) clock))
  | _ => none
theorem jiu {id : Nat} {kd : IntKind} {n : Int} {y : AV} : esK (.om id) (.d (.val (.int kd n))) y H = esN id n y H (H[id]?) := by
  unfold esK esN
  simp only [ixO]
theorem jsz {t : TypeId} {id : Nat} {v z u : Value} {μ : Mp} (hμ : OkM P t μ) (hv : zji v = true) (hn : zg5 v μ = none) : esN id μ.2 (.d (.val u)) H (some (mO (μ.1 ++ [(v, μ.2, z)], μ.2 + 1))) = some (.d (.val undef), H.set id (mO (znz v u μ))) := by
  unfold esN mO
  simp only
  have h0 : (mE μ.1).findIdx? (fun q => (q.2.1 : Int) == (μ.2 : Int)) = none := List.findIdx?_eq_none_iff.2 fun e he => by
    obtain ⟨p, hp, rfl⟩ := List.mem_map.1 he
    have := hμ.born p hp
    simp only [beq_eq_false_iff_ne, ne_eq]; omega
  have h1 : (mE (μ.1 ++ [(v, μ.2, z)])).findIdx? (fun q => (q.2.1 : Int) == (μ.2 : Int)) = some μ.1.length := by
    have : mE (μ.1 ++ [(v, μ.2, z)]) = mE μ.1 ++ [(v, μ.2, .d (.val z))] := by simp [mE]
    rw [this, List.findIdx?_append, h0]
    simp [mE]
  rw [h1, Option.map_some, zsg]
  have h2 : fiM v μ.1 = none := (zwe hv).2 ((zse hv).1 hn)
  unfold znz
  rw [h2]
  simp only
  congr 5
  generalize μ.1 = s
  induction s with
  | nil => rfl
  | cons a s ih => rw [List.length_cons, List.cons_append, List.modify_succ_cons, ih]; rfl
def lkK (P : Program) (KT : TypeId → Bool) (t : TypeId) (k : Option Value) (ok : Bool) (es : Option (List (Value × Nat × AV))) : Option AV :=
  match zg0 P t, k, es with
  | some (kt, et), some v, some es => (match zvO P et with
    | some z => if KT kt && zji v && (keyOf P kt v).isSome && zd2 P kt es then some (zyg ok z (zdu v es 0)) else none
    | none => none)
  | _, _, _ => none
theorem zih {t : TypeId} {k : AV} {ok : Bool} {id : Nat} (hid : id < N) : zep P N H KT t (.om id) k ok = lkK P KT t (zk4 k) ok (jml (H[id]?)) := by
  unfold zep lkK jml
  simp only [zc9, hid, if_true]
  cases zg0 P t with
  | none => rfl
  | some q =>
    cases zk4 k with
    | none => rfl
    | some v =>
      cases H[id]? with
      | none => rfl
      | some o => cases o <;> rfl
theorem jo8 {t : TypeId} {k : AV} {ok : Bool} {μ : Mp} : zep P N H KT t (.d (mD μ)) k ok = lkK P KT t (zk4 k) ok (some (mE μ.1)) := by
  unfold zep lkK mD
  simp only [zc9]
  cases zg0 P t with
  | none => rfl
  | some q => cases zk4 k <;> rfl
theorem jiv {μ : Mp} : jml (some (mO μ)) = some (mE μ.1) := rfl
theorem zsh {t : TypeId} {v z : Value} {μ : Mp} (ht : mtB P KT t = some z) (hv : zpz P t v) (hμ : OkM P t μ) : lkK P KT t (some v) true (some (mE μ.1)) = some (.tup [.d (.val ((zg5 v μ).getD z)), .d (.val (.bool (zg5 v μ).isSome))]) := by
  obtain ⟨kt, et, hm, h1, hz⟩ := zmj ht
  unfold lkK
  simp only [hm, hz, h1, hv.1, hv.2 kt et hm, hμ.kb hm, Bool.and_self, if_true]
  have := zsf v μ
  cases hf : zdu v (mE μ.1) 0 with
  | none => rw [hf] at this; cases hg : zg5 v μ with
    | none => rfl
    | some u => rw [hg] at this; cases this
  | some p => rw [hf] at this; cases hg : zg5 v μ with
    | none => rw [hg] at this; cases this
    | some u => rw [hg] at this; obtain ⟨i, y⟩ := p; simp at this; subst this; rfl
theorem jk1 {t : TypeId} {v z : Value} {μ : Mp} (ht : mtB P KT t = some z) (hv : zpz P t v) (hμ : OkM P t μ) : lkK P KT t (some v) false (some (mE μ.1)) = some (.d (.val ((zg5 v μ).getD z))) := by
  obtain ⟨kt, et, hm, h1, hz⟩ := zmj ht
  unfold lkK
  simp only [hm, hz, h1, hv.1, hv.2 kt et hm, hμ.kb hm, Bool.and_self, if_true]
  have := zsf v μ
  cases hf : zdu v (mE μ.1) 0 with
  | none => rw [hf] at this; cases hg : zg5 v μ with
    | none => rfl
    | some u => rw [hg] at this; cases this
  | some p => rw [hf] at this; cases hg : zg5 v μ with
    | none => rw [hg] at this; cases this
    | some u => rw [hg] at this; obtain ⟨i, y⟩ := p; simp at this; subst this; rfl
theorem zwk : ∀ (s : List (Value × Nat × Value)), zhp (mE s) = some s
  | [] => rfl
  | p :: s => by
    show (zhp (mE s)).map _ = _
    rw [zwk s]; rfl
theorem zjq {μ : Mp} : jby (mO μ) = some (μ.1, μ.2) := by
  show (zhp (mE μ.1)).map _ = _
  rw [zwk]; rfl
theorem jsd {keep : List Nat} {μ : Mp} : gcO keep (mO μ) = mO μ := by
  unfold mO gcO mE
  simp only [List.map_map]
  rfl
theorem jse {id : Nat} {l : List D} {μ : Mp} : fzO id l (mO μ) = mO μ := by
  unfold mO fzO mE
  simp only [List.map_map]
  rfl
theorem jo9 {μ : Mp} : D.mp μ.1 μ.2 = mD μ := rfl
theorem jiw {μ : Mp} : (mD μ).fix = mD μ := rfl
theorem jua : AObj.map [] 0 = mO ([], 0) := rfl
theorem zbb {p : Nat → Bool} {μ : Mp} : (mO μ).allI p = true := by
  show AV.allIs p ((mE μ.1).map (·.2.2)) = true
  generalize μ.1 = s
  induction s with
  | nil => rfl
  | cons e s ih => exact ih
theorem jpa {keep : List Nat} {cs : List AV} : gcO keep (.cells cs) = .cells (gcVs keep cs) := rfl
theorem jix {keep : List Nat} : gcO keep .dead = .dead := rfl
theorem jiy {keep : List Nat} : gcO keep .free = .free := rfl
theorem jpb {id : Nat} {l : List D} {cs : List AV} : fzO id l (.cells cs) = .cells (fzVs id l cs) := rfl
theorem jiz {id : Nat} {l : List D} : fzO id l .dead = .dead := rfl
theorem ji0 {id : Nat} {l : List D} : fzO id l .free = .free := rfl
theorem za1 {p : Nat → Bool} {cs : List AV} : (AObj.cells cs).allI p = AV.allIs p cs := rfl
theorem zat {p : Nat → Bool} : AObj.dead.allI p = true := rfl
theorem zau {p : Nat → Bool} : AObj.free.allI p = true := rfl
theorem jk2 {c : Cx} {code : Code} {QQ : Exit → Fr → zar → Prop} (h : AWp P c code QQ (frL []) H) : AWp P c code QQ (zf2 []) H := zbf (zak _) h
theorem jft {look : Look} {n : Nat} : zrg look (n + 1) [] = some [] := rfl
theorem jch {look : Look} {n : Nat} {y : AV} {r : List AV} : zrg look (n + 1) (y :: r) = (ztj look n y).bind fun a => (zrg look (n + 1) r).map (a :: ·) := by
  rw [show zrg look (n + 1) (y :: r) = (y :: r).mapM (ztj look n) from rfl, List.mapM_cons]
  show _ = (ztj look n y).bind fun a => (r.mapM (ztj look n)).map (a :: ·)
  cases ztj look n y <;> cases r.mapM (ztj look n) <;> rfl
theorem jpc {look : Look} {n k id off m : Nat} : ztj look (n + 1) (.os k id off m) = (look.c id).bind fun cs => (zcm cs off (m * k)).bind fun r => (zrg look n r).map (D.fs · m) := by
  show (match look.c id with | some cs => _ | none => none) = _
  cases look.c id with
  | none => rfl
  | some cs =>
    show (match zcm cs off (m * k) with | some l => _ | none => none) = (zcm cs off (m * k)).bind _
    cases zcm cs off (m * k) <;> rfl
theorem jk3 {look : Look} {n : Nat} {cs : List AV} : ztj look (n + 1) (.agg cs) = (zrg look n cs).map D.agg := rfl
theorem ji1 {v : Value} : zk4 (.d (.val v)) = some v := rfl
theorem jci {ds : List D} : zk4 (.d (.agg ds)) = (zd7 (ds.map .d)).map fun l => .agg l.toArray := rfl
theorem ji2 {xs : List AV} : zk4 (.agg xs) = (zd7 xs).map fun l => .agg l.toArray := rfl
theorem zwl : zd7 [] = some [] := rfl
theorem zp1 {v : Value} {l : List AV} : zd7 (.d (.val v) :: l) = (zd7 l).map (v :: ·) := rfl
theorem zao {p : Nat → Bool} {l : List D} : AV.allIs p (avs l) = true := by
  induction l with
  | nil => rfl
  | cons e s ih => exact ih
theorem jpd {sm : List Nat} {τ0 τ : Fr} {f : FuncId} {args : List AV} {ds : List D} {Q : AV → Prop} {KK : AV → zar → Prop} (hp : RCalls P f ds Q) (hd : AV.toD.toDs args = some ds) (hK : ∀ x, Q x → KK x H) : kE P sm N τ0 τ H (.d (.val (.func (.func f) #[] #[]))) args (tg KK) :=
  .inr ⟨f, [], [], rfl, .inl ⟨ds, Q, by simpa using hd, hp, hK⟩⟩
theorem znh {sm : List Nat} {τ0 τ : Fr} {f : FuncId} {args : List AV} {S T : zar} {K0 KK : AV → zar → Prop} {ks : List Nat} (h : ScS P ks f args S K0) (hH : H = S ++ T) (hN : S.length ≤ N) (hm : sm.all (okI ks S.length) = true) (hτ : ∀ t, (τ t).allI (okI ks S.length) = true) (h0 : ∀ t, (τ0 t).allI (okI ks S.length) = true) (ha : AV.allIs (ltI S.length) args = true)
    (hS : ∀ o ∈ S, o.allI (ltI S.length) = true) (hT : ∀ o ∈ T, o.allI (okI ks S.length) = true) (hK : ∀ x S', K0 x S' → S'.length = S.length ∧ KK x (S' ++ T)) : kE P sm N τ0 τ H (.d (.val (.func (.func f) #[] #[]))) args (tg KK) :=
  .inr ⟨f, [], [], rfl, .inr ⟨ks, S, T, K0, hH, hN, hm, hτ, h0, by simpa using ha, hS, hT, by simpa using h, hK⟩⟩
theorem zot {sm : List Nat} {τ0 τ : Fr} {f : FuncId} {fi ca args : List AV} {S T : zar} {K0 KK : AV → zar → Prop} {ks : List Nat} (h : ScS P ks f (fi ++ args ++ ca) S K0) (hH : H = S ++ T) (hN : S.length ≤ N) (hm : sm.all (okI ks S.length) = true) (hτ : ∀ t, (τ t).allI (okI ks S.length) = true) (h0 : ∀ t, (τ0 t).allI (okI ks S.length) = true) (ha : AV.allIs (ltI S.length) (fi ++ args ++ ca) = true)
    (hS : ∀ o ∈ S, o.allI (ltI S.length) = true) (hT : ∀ o ∈ T, o.allI (okI ks S.length) = true) (hK : ∀ x S', K0 x S' → S'.length = S.length ∧ KK x (S' ++ T)) : kE P sm N τ0 τ H (.clo (.func f) fi ca) args (tg KK) :=
  .inr ⟨f, fi, ca, rfl, .inr ⟨ks, S, T, K0, hH, hN, hm, hτ, h0, ha, hS, hT, h, hK⟩⟩
end
end Go.Proofs.Ytignimmnnccblaa
