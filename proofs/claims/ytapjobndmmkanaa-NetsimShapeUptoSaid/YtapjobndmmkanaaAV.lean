/- Of no program: maps whose values are plain. -/
import Derived.Test.YtapjobndmmkanaaAU
import Derived.Test.YtapjobndmmkanaaAY
set_option linter.unusedVariables false
set_option linter.unusedSimpArgs false
namespace Go.Proofs.Ytapjobndmmkanaa
open Go Go.RowKit
abbrev Mp := List (Value × Nat × Value) × Nat
def mE (s : List (Value × Nat × Value)) : List (Value × Nat × AV) := s.map fun e => (e.1, e.2.1, .d (.val e.2.2))
def mO (μ : Mp) : AObj := .map (mE μ.1) μ.2
def mD (μ : Mp) : D := .mp μ.1 μ.2
def fiM (k : Value) (s : List (Value × Nat × Value)) : Option Nat := s.findIdx? fun e => vEq e.1 k
def zhm (k : Value) (μ : Mp) : Option Value := (μ.1.find? fun e => vEq e.1 k).map (·.2.2)
def zl9 (k v : Value) (μ : Mp) : Mp := match fiM k μ.1 with
  | some i => (μ.1.modify i fun q => (q.1, q.2.1, v), μ.2)
  | none => (μ.1 ++ [(k, μ.2, v)], μ.2 + 1)
section
variable {P : Program} {KT : TypeId → Bool} {H : zag} {ρ : Operand → AV} {N : Nat}
/-- The map's type, with its zero value. -/
def mtB (P : Program) (KT : TypeId → Bool) (t : TypeId) : Option Value := match zec P t with
  | some (kt, et) => if KT kt then (match zvO P et with | some (.d (.val z)) => some z | _ => none) else none
  | none => none
/-- A key that the program can read. -/
def zjh (P : Program) (t : TypeId) (k : Value) : Prop := zf6 k = true ∧ ∀ kt et, zec P t = some (kt, et) → (keyOf P kt k).isSome = true
structure OkM (P : Program) (t : TypeId) (μ : Mp) : Prop where
  keys : ∀ e ∈ μ.1, zjh P t e.1
  born : ∀ e ∈ μ.1, e.2.1 < μ.2
theorem OkM.nil (t : TypeId) (n : Nat) : OkM P t ([], n) := ⟨fun e he => (by cases he), fun e he => (by cases he)⟩
theorem zji {k : Value} {s : List (Value × Nat × Value)} (hk : zf6 k = true) : fiM k s = none ↔ ∀ e ∈ s, e.1 ≠ k := by
  unfold fiM
  rw [List.findIdx?_eq_none_iff]
  constructor
  · intro h e he hek
    have := h e he
    rw [(zgu hk).2 hek] at this; cases this
  · intro h e he
    cases hv : vEq e.1 k with
    | false => rfl
    | true => exact absurd ((zgu hk).1 hv) (h e he)
theorem zhg {k : Value} {μ : Mp} (hk : zf6 k = true) : zhm k μ = none ↔ ∀ e ∈ μ.1, e.1 ≠ k := by
  unfold zhm
  rw [Option.map_eq_none_iff, List.find?_eq_none]
  constructor
  · intro h e he hek
    exact h e he ((zgu hk).2 hek)
  · intro h e he hv
    exact h e he ((zgu hk).1 hv)
theorem zfn (k : Value) : ∀ (s : List (Value × Nat × Value)) (i : Nat), zcg k (mE s) i = (s.findIdx? fun e => vEq e.1 k).map fun j => (i + j, .d (.val (s.getD j (undef, 0, undef)).2.2))
  | [], i => rfl
  | p :: s, i => by
    show (if vEq p.1 k then _ else _) = _
    rw [List.findIdx?_cons]
    by_cases hp : vEq p.1 k
    · simp [hp]
    · simp only [hp, Bool.false_eq_true, if_false, Option.map_map]
      have ih := zfn k s (i + 1)
      unfold mE at ih
      rw [ih]
      congr 1
      funext j
      simp only [Function.comp, List.getD_cons_succ]
      rw [show i + 1 + j = i + (j + 1) by omega]
theorem zlr (k : Value) (μ : Mp) : (zcg k (mE μ.1) 0).map (·.2) = (zhm k μ).map fun v => AV.d (.val v) := by
  rw [zfn]
  unfold zhm
  generalize μ.1 = s
  induction s with
  | nil => rfl
  | cons p s ih =>
    rw [List.findIdx?_cons, List.find?_cons]
    by_cases hp : vEq p.1 k
    · simp [hp]
    · simp only [hp, Bool.false_eq_true, if_false, Option.map_map] at ih ⊢
      simpa [Function.comp_def] using ih
theorem zhh (s : List (Value × Nat × Value)) (i : Nat) (v : Value) : (mE s).modify i (fun q => (q.1, q.2.1, AV.d (.val v))) = mE (s.modify i fun q => (q.1, q.2.1, v)) := by
  apply List.ext_getElem?
  intro j
  unfold mE
  rw [List.getElem?_modify, List.getElem?_map, List.getElem?_map, List.getElem?_modify]
  cases s[j]? with
  | none => rfl
  | some p => by_cases h : i = j <;> simp [h]
theorem OkM.kb {t kt et : TypeId} {μ : Mp} (h : OkM P t μ) (hm : zec P t = some (kt, et)) : zco P kt (mE μ.1) = true := by
  refine List.all_eq_true.2 fun e he => ?_
  obtain ⟨p, hp, rfl⟩ := List.mem_map.1 he
  exact (h.keys p hp).2 kt et hm
theorem OkM.put {t : TypeId} {μ : Mp} (h : OkM P t μ) {k v : Value} (hk : zjh P t k) : OkM P t (zl9 k v μ) := by
  unfold zl9
  split
  · rename_i i hi
    refine ⟨fun e he => ?_, fun e he => ?_⟩ <;>
      (obtain ⟨j, hj⟩ := List.getElem?_of_mem he
       simp only at hj
       rw [List.getElem?_modify, Option.map_eq_map, Option.map_eq_some_iff] at hj
       obtain ⟨q, hq, rfl⟩ := hj
       have hm := List.mem_of_getElem? hq
       split)
    · exact h.keys q hm
    · exact h.keys q hm
    · exact h.born q hm
    · exact h.born q hm
  · refine ⟨fun e he => ?_, fun e he => ?_⟩ <;> rcases List.mem_append.1 he with he | he
    · exact h.keys e he
    · rw [List.mem_singleton.1 he]; exact hk
    · exact Nat.lt_succ_of_lt (h.born e he)
    · rw [List.mem_singleton.1 he]; exact Nat.lt_succ_self _
theorem zo2 {k v : Value} (hv : vEq k k = true) : ∀ {s : List (Value × Nat × Value)} {i : Nat}, (s.findIdx? fun e => vEq e.1 k) = some i → ((s.modify i fun q => (q.1, q.2.1, v)).find? fun e => vEq e.1 k).map (·.2.2) = some v
  | [], i, h => by cases h
  | p :: s, i, h => by
    rw [List.findIdx?_cons] at h
    split at h
    · rename_i hp
      cases h
      simp [hp]
    · rename_i hp
      obtain ⟨j, hj, rfl⟩ := Option.map_eq_some_iff.1 h
      rw [List.modify_succ_cons, List.find?_cons]
      simp only [hp]
      exact zo2 hv hj
theorem zhi {k k' v : Value} (hne : ∀ q : Value, vEq q k = true → vEq q k' = false) : ∀ {s : List (Value × Nat × Value)} {i : Nat}, (s.findIdx? fun e => vEq e.1 k) = some i → ((s.modify i fun q => (q.1, q.2.1, v)).find? fun e => vEq e.1 k') = (s.find? fun e => vEq e.1 k')
  | [], i, h => by cases h
  | p :: s, i, h => by
    rw [List.findIdx?_cons] at h
    split at h
    · rename_i hp
      cases h
      simp [hne p.1 hp]
    · rename_i hp
      obtain ⟨j, hj, rfl⟩ := Option.map_eq_some_iff.1 h
      rw [List.modify_succ_cons, List.find?_cons, List.find?_cons, zhi hne hj]
theorem zjj {k k' v : Value} (hk : zf6 k = true) (hk' : zf6 k' = true) (μ : Mp) [Decidable (k' = k)] : zhm k' (zl9 k v μ) = if k' = k then some v else zhm k' μ := by
  unfold zl9 fiM
  split
  · rename_i i hi
    by_cases he : k' = k
    · subst he
      rw [if_pos rfl]
      exact zo2 (zgd hk) hi
    · rw [if_neg he]
      unfold zhm
      rw [zhi (fun q hq => ?_) hi]
      cases hq' : vEq q k' with
      | false => rfl
      | true => exact absurd ((zku hq').symm.trans (zku hq)) he
  · rename_i hi
    unfold zhm
    simp only [List.find?_append]
    by_cases he : k' = k
    · subst he
      rw [if_pos rfl]
      have : (μ.1.find? fun e => vEq e.1 k') = none := List.find?_eq_none.2 fun e hm hv => by
        have := List.findIdx?_eq_none_iff.1 hi e hm
        rw [hv] at this; cases this
      simp [this, zgd hk]
    · rw [if_neg he]
      have hn : vEq k k' = false := by
        cases hq : vEq k k' with
        | false => rfl
        | true => exact absurd (zku hq).symm he
      cases (μ.1.find? fun e => vEq e.1 k') <;> simp [hn]
/-! ### The operations -/
def muO (P : Program) (KT : TypeId → Bool) (t : TypeId) (id : Nat) (v : Value) (y : AV) (H : zag) (o : Option AObj) : Option (AV × zag) :=
  match zec P t with
  | some (kt, _) => (match o with
    | some (.map es clock) => if KT kt && zf6 v && (keyOf P kt v).isSome && zco P kt es && true then
        some (.d (.val undef), H.set id (match zcg v es 0 with | some (i, _) => .map (es.modify i fun q => (q.1, q.2.1, y)) clock | none => .map (es ++ [(v, clock, y)]) (clock + 1))) else none
    | _ => none)
  | none => none
def muK (P : Program) (KT : TypeId → Bool) (t : TypeId) (m : AV) (k : Option Value) (y : AV) (H : zag) : Option (AV × zag) :=
  match m, k with
  | .om id, some v => muO P KT t id v y H (H[id]?)
  | _, _ => none
theorem zo3 {t : TypeId} {m k y : Operand} : zee P KT ρ (.mapUpdate t m k y) H [] = muK P KT t (ρ m) (zf7 (ρ k)) (ρ y) H := by
  unfold zee muK muO
  simp only [List.all_nil, Bool.and_true]
  cases ρ m <;> cases zec P t <;> cases zf7 (ρ k) <;> rfl
theorem zo4 {t : TypeId} {m k y : Operand} : zee P KT ρ (.insert t m k y) H [] = muK P KT t (ρ m) (zf7 (ρ k)) (ρ y) H := by
  unfold zee muK muO
  simp only [List.all_nil, Bool.and_true]
  cases ρ m <;> cases zec P t <;> cases zf7 (ρ k) <;> rfl
theorem zyc {t : TypeId} {id : Nat} {v : Value} {y : AV} : muK P KT t (.om id) (some v) y H = muO P KT t id v y H (H[id]?) := rfl
theorem zgn {t : TypeId} {z : Value} (h : mtB P KT t = some z) : ∃ kt et, zec P t = some (kt, et) ∧ KT kt = true ∧ zvO P et = some (.d (.val z)) := by
  unfold mtB at h
  split at h
  · rename_i kt et hm
    split at h
    · rename_i hk
      split at h
      · cases h; exact ⟨kt, et, hm, hk, by assumption⟩
      · cases h
    · cases h
  · cases h
theorem je8 {t : TypeId} {id : Nat} {v u z : Value} {μ : Mp} (ht : mtB P KT t = some z) (hv : zjh P t v) (hμ : OkM P t μ) : muO P KT t id v (.d (.val u)) H (some (mO μ)) = some (.d (.val undef), H.set id (mO (zl9 v u μ))) := by
  obtain ⟨kt, et, hm, h1, hz⟩ := zgn ht
  unfold muO mO
  simp only [hm, h1, hv.1, hv.2 kt et hm, hμ.kb hm, Bool.and_self, if_true, zfn]
  unfold zl9 fiM
  cases hf : μ.1.findIdx? fun e => vEq e.1 v with
  | none => simp [mE]
  | some i => simp [zhh]
/-- An entry is made (the key was not there), then set. -/
def meO (P : Program) (KT : TypeId → Bool) (t : TypeId) (id : Nat) (v : Value) (H : zag) (o : Option AObj) : Option (AV × zag) :=
  match zec P t with
  | some (kt, et) => (match o, zvO P et with
      | some (.map es clock), some z => if KT kt && zf6 v && (keyOf P kt v).isSome && zco P kt es then
          (match zcg v es 0 with
          | some (i, y) => (es[i]?).map fun q => (.tup [y, .d (.val (.int .i64 q.2.1))], H.set id (.map es clock))
          | none => some (.tup [z, .d (.val (.int .i64 clock))], H.set id (.map (es ++ [(v, clock, z)]) (clock + 1)))) else none
      | _, _ => none)
  | none => none
def meK (P : Program) (KT : TypeId → Bool) (t : TypeId) (m : AV) (k : Option Value) (H : zag) : Option (AV × zag) :=
  match m, k with
  | .om id, some v => meO P KT t id v H (H[id]?)
  | _, _ => none
theorem zo5 {t : TypeId} {m k : Operand} : zee P KT ρ (.mapEntry t m k) H [] = meK P KT t (ρ m) (zf7 (ρ k)) H := by
  unfold zee meK meO
  simp only [List.all_nil, Bool.and_true]
  cases ρ m <;> cases zec P t <;> cases zf7 (ρ k) <;> rfl
theorem zyd {t : TypeId} {id : Nat} {v : Value} : meK P KT t (.om id) (some v) H = meO P KT t id v H (H[id]?) := rfl
theorem je9 {t : TypeId} {id : Nat} {v z : Value} {μ : Mp} (ht : mtB P KT t = some z) (hv : zjh P t v) (hμ : OkM P t μ) (hn : zhm v μ = none) : meO P KT t id v H (some (mO μ)) = some (.tup [.d (.val z), .d (.val (.int .i64 μ.2))], H.set id (mO (μ.1 ++ [(v, μ.2, z)], μ.2 + 1))) := by
  obtain ⟨kt, et, hm, h1, hz⟩ := zgn ht
  unfold meO mO
  simp only [hm, hz, h1, hv.1, hv.2 kt et hm, hμ.kb hm, Bool.and_self, if_true, zfn]
  have : (μ.1.findIdx? fun e => vEq e.1 v) = none := (zji hv.1).2 ((zhg hv.1).1 hn)
  simp [this, mE]
def esK (m s y : AV) (H : zag) : Option (AV × zag) :=
  match m, ixO s with
  | .om id, some n => (match H[id]? with
      | some (.map es clock) => (es.findIdx? (fun q => (q.2.1 : Int) == n)).map fun i => (.d (.val undef), H.set id (.map (es.modify i fun q => (q.1, q.2.1, y)) clock))
      | _ => none)
  | _, _ => none
theorem zo6 {t : TypeId} {m s y : Operand} : zee P KT ρ (.entryStore t m s y) H [] = esK (ρ m) (ρ s) (ρ y) H := by
  unfold zee esK
  simp only [List.all_nil, Bool.and_true]
  cases ρ m <;> cases ixO (ρ s) <;> rfl
def esN (id : Nat) (n : Int) (y : AV) (H : zag) (o : Option AObj) : Option (AV × zag) :=
  match o with
  | some (.map es clock) => (es.findIdx? (fun q => (q.2.1 : Int) == n)).map fun i => (.d (.val undef), H.set id (.map (es.modify i fun q => (q.1, q.2.1, y)) clock))
  | _ => none
theorem zye {id : Nat} {kd : IntKind} {n : Int} {y : AV} : esK (.om id) (.d (.val (.int kd n))) y H = esN id n y H (H[id]?) := by
  unfold esK esN
  simp only [ixO]
theorem jfa {t : TypeId} {id : Nat} {v z u : Value} {μ : Mp} (hμ : OkM P t μ) (hv : zf6 v = true) (hn : zhm v μ = none) : esN id μ.2 (.d (.val u)) H (some (mO (μ.1 ++ [(v, μ.2, z)], μ.2 + 1))) = some (.d (.val undef), H.set id (mO (zl9 v u μ))) := by
  unfold esN mO
  simp only
  have h0 : (mE μ.1).findIdx? (fun q => (q.2.1 : Int) == (μ.2 : Int)) = none := List.findIdx?_eq_none_iff.2 fun e he => by
    obtain ⟨p, hp, rfl⟩ := List.mem_map.1 he
    have := hμ.born p hp
    simp only [beq_eq_false_iff_ne, ne_eq]; omega
  have h1 : (mE (μ.1 ++ [(v, μ.2, z)])).findIdx? (fun q => (q.2.1 : Int) == (μ.2 : Int)) = some μ.1.length := by
    have : mE (μ.1 ++ [(v, μ.2, z)]) = mE μ.1 ++ [(v, μ.2, .d (.val z))] := by simp [mE]
    rw [this, List.findIdx?_append, h0]
    simp [mE]
  rw [h1, Option.map_some, zhh]
  have h2 : fiM v μ.1 = none := (zji hv).2 ((zhg hv).1 hn)
  unfold zl9
  rw [h2]
  simp only
  congr 5
  generalize μ.1 = s
  induction s with
  | nil => rfl
  | cons a s ih => rw [List.length_cons, List.cons_append, List.modify_succ_cons, ih]; rfl
def lkK (P : Program) (KT : TypeId → Bool) (t : TypeId) (k : Option Value) (ok : Bool) (es : Option (List (Value × Nat × AV))) : Option AV :=
  match zec P t, k, es with
  | some (kt, et), some v, some es => (match zvO P et with
    | some z => if KT kt && zf6 v && (keyOf P kt v).isSome && zco P kt es then some (zzv ok z (zcg v es 0)) else none
    | none => none)
  | _, _, _ => none
theorem zd1 {t : TypeId} {k : AV} {ok : Bool} {id : Nat} (hid : id < N) : zc1 P N H KT t (.om id) k ok = lkK P KT t (zf7 k) ok (je7 (H[id]?)) := by
  unfold zc1 lkK je7
  simp only [zb1, hid, if_true]
  cases zec P t with
  | none => rfl
  | some q =>
    cases zf7 k with
    | none => rfl
    | some v =>
      cases H[id]? with
      | none => rfl
      | some o => cases o <;> rfl
theorem jc4 {t : TypeId} {k : AV} {ok : Bool} {μ : Mp} : zc1 P N H KT t (.d (mD μ)) k ok = lkK P KT t (zf7 k) ok (some (mE μ.1)) := by
  unfold zc1 lkK mD
  simp only [zb1]
  cases zec P t with
  | none => rfl
  | some q => cases zf7 k <;> rfl
theorem zyf {μ : Mp} : je7 (some (mO μ)) = some (mE μ.1) := rfl
theorem zga {t : TypeId} {v z : Value} {μ : Mp} (ht : mtB P KT t = some z) (hv : zjh P t v) (hμ : OkM P t μ) : lkK P KT t (some v) false (some (mE μ.1)) = some (.d (.val ((zhm v μ).getD z))) := by
  obtain ⟨kt, et, hm, h1, hz⟩ := zgn ht
  unfold lkK
  simp only [hm, hz, h1, hv.1, hv.2 kt et hm, hμ.kb hm, Bool.and_self, if_true]
  have := zlr v μ
  cases hf : zcg v (mE μ.1) 0 with
  | none => rw [hf] at this; cases hg : zhm v μ with
    | none => rfl
    | some u => rw [hg] at this; cases this
  | some p => rw [hf] at this; cases hg : zhm v μ with
    | none => rw [hg] at this; cases this
    | some u => rw [hg] at this; obtain ⟨i, y⟩ := p; simp at this; subst this; rfl
theorem zo7 : ∀ (s : List (Value × Nat × Value)), zev (mE s) = some s
  | [] => rfl
  | p :: s => by
    show (zev (mE s)).map _ = _
    rw [zo7 s]; rfl
theorem zyg {μ : Mp} : jcs (mO μ) = some (μ.1, μ.2) := by
  show (zev (mE μ.1)).map _ = _
  rw [zo7]; rfl
theorem jep {keep : List Nat} {μ : Mp} : gcO keep (mO μ) = mO μ := by
  unfold mO gcO mE
  simp only [List.map_map]
  rfl
theorem jeq {id : Nat} {l : List D} {μ : Mp} : fzO id l (mO μ) = mO μ := by
  unfold mO fzO mE
  simp only [List.map_map]
  rfl
theorem jc5 {μ : Mp} : D.mp μ.1 μ.2 = mD μ := rfl
theorem zyh {μ : Mp} : (mD μ).fix = mD μ := rfl
theorem jfw : AObj.map [] 0 = mO ([], 0) := rfl
theorem zta {p : Nat → Bool} {μ : Mp} : (mO μ).allI p = true := by
  show AV.allIs p ((mE μ.1).map (·.2.2)) = true
  generalize μ.1 = s
  induction s with
  | nil => rfl
  | cons e s ih => exact ih
theorem jc6 {keep : List Nat} {cs : List AV} : gcO keep (.cells cs) = .cells (gcVs keep cs) := rfl
theorem zyi {keep : List Nat} : gcO keep .dead = .dead := rfl
theorem zyj {keep : List Nat} : gcO keep .free = .free := rfl
theorem jc7 {id : Nat} {l : List D} {cs : List AV} : fzO id l (.cells cs) = .cells (fzVs id l cs) := rfl
theorem zyk {id : Nat} {l : List D} : fzO id l .dead = .dead := rfl
theorem zyl {id : Nat} {l : List D} : fzO id l .free = .free := rfl
theorem zls {p : Nat → Bool} {cs : List AV} : (AObj.cells cs).allI p = AV.allIs p cs := rfl
theorem zhj {p : Nat → Bool} : AObj.dead.allI p = true := rfl
theorem zhk {p : Nat → Bool} : AObj.free.allI p = true := rfl
theorem zym {v : Value} : zf7 (.d (.val v)) = some v := rfl
theorem ztb {ds : List D} : zf7 (.d (.agg ds)) = (zeu (ds.map .d)).map fun l => .agg l.toArray := rfl
theorem zyn {xs : List AV} : zf7 (.agg xs) = (zeu xs).map fun l => .agg l.toArray := rfl
theorem zyo : zeu [] = some [] := rfl
theorem ztc {v : Value} {l : List AV} : zeu (.d (.val v) :: l) = (zeu l).map (v :: ·) := rfl
theorem zd2 {p : Nat → Bool} {l : List D} : AV.allIs p (avs l) = true := by
  induction l with
  | nil => rfl
  | cons e s ih => exact ih
end
end Go.Proofs.Ytapjobndmmkanaa
