/- Of no program: sets of integers, kept in maps of the call's own. -/
import Derived.Test.YtgfnpfchdlcoeaaAR
set_option linter.unusedVariables false
set_option linter.unusedSimpArgs false
namespace Go.Proofs.Ytgfnpfchdlcoeaa
open Go Go.RowKit
/-- A set: keys with their stamps, and the clock. -/
abbrev SetS := List (Int × Nat) × Nat
def I64 (n : Int) : Prop := -9223372036854775808 ≤ n ∧ n < 9223372036854775808
def setE (s : List (Int × Nat)) : List (Value × Nat × AV) := s.map fun p => (.int .i64 p.1, p.2, .d (.val (.bool true)))
def setO (σ : SetS) : AObj := .map (setE σ.1) σ.2
def setV (s : List (Int × Nat)) : List (Value × Nat × Value) := s.map fun p => (.int .i64 p.1, p.2, .bool true)
def zfr (σ : SetS) : List Int := σ.1.map (·.1)
def putS (n : Int) (σ : SetS) : SetS := if n ∈ zfr σ then σ else (σ.1 ++ [(n, σ.2)], σ.2 + 1)
def ofS (l : List Int) : SetS := l.foldl (fun σ n => putS n σ) ([], 0)
structure OkS (σ : SetS) : Prop where
  i64 : ∀ p ∈ σ.1, I64 p.1
  keys : (zfr σ).Nodup
  old : ∀ p ∈ σ.1, p.2 < σ.2
  born : (σ.1.map (·.2)).Nodup
theorem mem_put {n m : Int} {σ : SetS} : m ∈ zfr (putS n σ) ↔ m = n ∨ m ∈ zfr σ := by
  unfold putS
  split
  · rename_i h
    exact ⟨.inr, fun h' => h'.elim (fun e => e ▸ h) fun h => h⟩
  · simp [zfr, or_comm]
theorem OkS.put {σ : SetS} (h : OkS σ) {n : Int} (hn : I64 n) : OkS (putS n σ) := by
  unfold putS
  split
  · exact h
  · rename_i hm
    refine ⟨fun p hp => ?_, ?_, fun p hp => ?_, ?_⟩
    · rcases List.mem_append.1 hp with hp | hp
      · exact h.i64 p hp
      · rw [List.mem_singleton] at hp; subst hp; exact hn
    · show (List.map (fun x : Int × Nat => x.1) (σ.1 ++ [(n, σ.2)])).Nodup
      rw [List.map_append, List.nodup_append]
      refine ⟨h.keys, by simp, fun a ha b hb => ?_⟩
      simp only [List.map_cons, List.map_nil, List.mem_singleton] at hb
      subst hb
      exact fun e => hm (e ▸ ha)
    · rcases List.mem_append.1 hp with hp | hp
      · exact Nat.lt_succ_of_lt (h.old p hp)
      · rw [List.mem_singleton] at hp; subst hp; exact Nat.lt_succ_self _
    · show (List.map (fun x : Int × Nat => x.2) (σ.1 ++ [(n, σ.2)])).Nodup
      rw [List.map_append, List.nodup_append]
      refine ⟨h.born, by simp, fun a ha b hb => ?_⟩
      simp only [List.map_cons, List.map_nil, List.mem_singleton] at hb
      subst hb
      obtain ⟨p, hp, rfl⟩ := List.mem_map.1 ha
      exact fun e => absurd (h.old p hp) (by omega)
theorem OkS.nil (n : Nat) : OkS ([], n) := ⟨fun p hp => (by cases hp), List.nodup_nil, fun p hp => (by cases hp), List.nodup_nil⟩
theorem OkS.foldl {l : List Int} (hl : ∀ x ∈ l, I64 x) : ∀ {σ : SetS}, OkS σ → OkS (l.foldl (fun σ n => putS n σ) σ) := by
  induction l with
  | nil => intro σ h; exact h
  | cons x l ih => intro σ h; exact ih (fun y hy => hl y (List.mem_cons_of_mem _ hy)) (h.put (hl x (List.mem_cons_self ..)))
theorem OkS.of {l : List Int} (hl : ∀ x ∈ l, I64 x) : OkS (ofS l) := OkS.foldl hl (.nil 0)
theorem len_put (n : Int) (σ : SetS) : (putS n σ).1.length ≤ σ.1.length + 1 := by
  unfold putS; split <;> simp
section
variable {P : Program} {KT : TypeId → Bool} {H : za0} {ρ : Operand → AV} {N : Nat}
/-- The map's type is that of a set of int. -/
def setT (P : Program) (KT : TypeId → Bool) (t : TypeId) : Bool :=
  match mapO P t with
  | some (kt, et) => KT kt && (match P.underlying kt with | some (.int .i64) => true | _ => false) && (match zvO P et with | some (.d (.val (.bool false))) => true | _ => false)
  | none => false
theorem zs9 {t : TypeId} (h : setT P KT t = true) : ∃ kt et, mapO P t = some (kt, et) ∧ KT kt = true ∧ P.underlying kt = some (.int .i64) ∧ zvO P et = some (.d (.val (.bool false))) := by
  unfold setT at h
  split at h
  · rename_i kt et hm
    simp only [Bool.and_eq_true] at h
    obtain ⟨⟨h1, h2⟩, h3⟩ := h
    refine ⟨kt, et, hm, h1, ?_, ?_⟩
    · split at h2
      · assumption
      · cases h2
    · split at h3
      · assumption
      · cases h3
  · cases h
theorem zl8 {kt : TypeId} (hu : P.underlying kt = some (.int .i64)) {n : Int} (hn : I64 n) : (keyOf P kt (.int .i64 n)).isSome = true := by
  have hw : (Lit.int .i64 n).wf = true := by
    obtain ⟨h1, h2⟩ := hn
    simp [Lit.wf]
    exact ⟨h1, by omega⟩
  simp [keyOf, hu, mapKey, hw]
theorem zwh {kt : TypeId} (hu : P.underlying kt = some (.int .i64)) {σ : SetS} (h : OkS σ) : zf4 P kt (setE σ.1) = true := by
  refine List.all_eq_true.2 fun e he => ?_
  obtain ⟨p, hp, rfl⟩ := List.mem_map.1 he
  exact zl8 hu (h.i64 p hp)
theorem zru (n : Int) : ∀ (s : List (Int × Nat)) (i : Nat), zfu (.int .i64 n) (setE s) i = (s.findIdx? fun p => p.1 == n).map fun j => (i + j, .d (.val (.bool true)))
  | [], i => rfl
  | p :: s, i => by
    have e : vEq (.int .i64 p.1) (.int .i64 n) = (p.1 == n) := by
      simp only [vEq, vS, decide_true, Bool.true_and]; rfl
    show (if vEq (.int .i64 p.1) (.int .i64 n) then _ else _) = _
    rw [e, List.findIdx?_cons]
    by_cases hp : p.1 == n
    · simp [hp]
    · simp only [hp, Bool.false_eq_true, if_false, Option.map_map]
      have ih := zru n s (i + 1)
      unfold setE at ih
      rw [ih]
      congr 1
      funext j
      simp only [Function.comp]
      rw [show i + 1 + j = i + (j + 1) by omega]
theorem find_none {n : Int} {s : List (Int × Nat)} : (s.findIdx? fun p => p.1 == n) = none ↔ n ∉ s.map (·.1) := by
  rw [List.findIdx?_eq_none_iff]
  simp only [List.mem_map, not_exists, not_and, beq_eq_false_iff_ne, ne_eq]
theorem zuq {s : List (Int × Nat)} {i : Nat} : (setE s).modify i (fun q => (q.1, q.2.1, AV.d (.val (.bool true)))) = setE s := by
  apply List.ext_getElem?
  intro j
  rw [List.getElem?_modify]
  unfold setE
  rw [List.getElem?_map]
  cases s[j]? with
  | none => rfl
  | some p => by_cases h : i = j <;> simp [h]
def muG (P : Program) (KT : TypeId → Bool) (t : TypeId) (id : Nat) (n : Int) (y : AV) (H : za0) (o : Option AObj) : Option (AV × za0) :=
  match mapO P t with
  | some (kt, _) => (match o with
    | some (.map es clock) => if KT kt && vKey (.int .i64 n) && (keyOf P kt (.int .i64 n)).isSome && zf4 P kt es && true then
        some (.d (.val undef), H.set id (match zfu (.int .i64 n) es 0 with | some (i, _) => .map (es.modify i fun q => (q.1, q.2.1, y)) clock | none => .map (es ++ [(.int .i64 n, clock, y)]) (clock + 1))) else none
    | _ => none)
  | none => none
def mapX (P : Program) (KT : TypeId → Bool) (ρ : Operand → AV) (op : Op) (H : za0) : Option (AV × za0) := mapF P KT ρ op H []
def muF (P : Program) (KT : TypeId → Bool) (t : TypeId) (m k y : AV) (H : za0) (o : Option (AV × za0)) : Option (AV × za0) :=
  match m, k with
  | .om id, .d (.val (.int .i64 n)) => muG P KT t id n y H (H[id]?)
  | _, _ => o
theorem zqq {t : TypeId} {id : Nat} {n : Int} {y : AV} {o : Option (AV × za0)} : muF P KT t (.om id) (.d (.val (.int .i64 n))) y H o = muG P KT t id n y H (H[id]?) := rfl
theorem zpc {t : TypeId} {m k y : Operand} : mapF P KT ρ (.mapUpdate t m k y) H [] = muF P KT t (ρ m) (ρ k) (ρ y) H (mapX P KT ρ (.mapUpdate t m k y) H) := by
  unfold muF
  split
  · rename_i id n hm hk
    unfold mapF muG
    simp only [hm, hk, keyV, List.all_nil, Bool.and_true]
    cases mapO P t with
    | none => rfl
    | some q => rfl
  · rfl
theorem zm1 {t : TypeId} {id : Nat} {n : Int} {σ : SetS} (ht : setT P KT t = true) (hn : I64 n) (hσ : OkS σ) : muG P KT t id n (.d (.val (.bool true))) H (some (setO σ)) = some (.d (.val undef), H.set id (setO (putS n σ))) := by
  obtain ⟨kt, et, hm, h1, hu, hz⟩ := zs9 ht
  unfold muG setO
  simp only [hm, h1, zl8 hu hn, zwh hu hσ, vKey, vSk, Bool.and_self, if_true, zru]
  cases hf : σ.1.findIdx? fun p => p.1 == n with
  | none =>
    have := find_none.1 hf
    simp only [Option.map_none]
    unfold putS zfr
    rw [if_neg this]
    simp [setE]
  | some i =>
    have : n ∈ σ.1.map (·.1) := Decidable.of_not_not fun h => by rw [find_none.2 h] at hf; cases hf
    simp only [Option.map_some]
    unfold putS zfr
    rw [if_pos this, zuq]
def lkG (P : Program) (KT : TypeId → Bool) (t : TypeId) (n : Int) (es : Option (List (Value × Nat × AV))) : Option AV :=
  match mapO P t, es with
  | some (kt, et), some es => (match zvO P et with
    | some z => if KT kt && vKey (.int .i64 n) && (keyOf P kt (.int .i64 n)).isSome && zf4 P kt es then some (lookR false z (zfu (.int .i64 n) es 0)) else none
    | none => none)
  | _, _ => none
theorem zpd {t : TypeId} {n : Int} {σ : SetS} (ht : setT P KT t = true) (hn : I64 n) (hσ : OkS σ) : lkG P KT t n (some (setE σ.1)) = some (.d (.val (.bool (decide (n ∈ zfr σ))))) := by
  obtain ⟨kt, et, hm, h1, hu, hz⟩ := zs9 ht
  unfold lkG
  simp only [hm, hz, h1, zl8 hu hn, zwh hu hσ, vKey, vSk, Bool.and_self, if_true, zru]
  cases hf : σ.1.findIdx? fun p => p.1 == n with
  | none =>
    have := find_none.1 hf
    simp [lookR, zfr, this]
  | some i =>
    have : n ∈ σ.1.map (·.1) := Decidable.of_not_not fun h => by rw [find_none.2 h] at hf; cases hf
    simp [lookR, zfr, this]
def esOf : Option AObj → Option (List (Value × Nat × AV))
  | some (.map es _) => some es
  | _ => none
theorem zl9 {σ : SetS} : esOf (some (setO σ)) = some (setE σ.1) := rfl
theorem lk_om {t : TypeId} {n : Int} {id : Nat} (hid : id < N) : zik P N H KT t (.om id) (.d (.val (.int .i64 n))) false = lkG P KT t n (esOf (H[id]?)) := by
  unfold zik lkG esOf
  simp only [ze6, keyV, hid, if_true]
  cases mapO P t with
  | none => rfl
  | some q =>
    cases H[id]? with
    | none => rfl
    | some o => cases o <;> rfl
theorem zta : ∀ (s : List (Int × Nat)), zjn (setE s) = some (setV s)
  | [] => rfl
  | p :: s => by
    show (zjn (setE s)).map _ = _
    rw [zta s]; rfl
theorem maps_set {σ : SetS} : mapsOf (setO σ) = some (setV σ.1, σ.2) := by
  show (zjn (setE σ.1)).map _ = _
  rw [zta]; rfl
theorem zpe {keep : List Nat} {σ : SetS} : gcO keep (setO σ) = setO σ := by
  unfold setO gcO setE
  simp only [List.map_map]
  rfl
theorem zwi {id : Nat} {l : List D} {σ : SetS} : fzO id l (setO σ) = setO σ := by
  unfold setO fzO setE
  simp only [List.map_map]
  rfl
theorem zqr : AObj.map [] 0 = setO ([], 0) := rfl
end
end Go.Proofs.Ytgfnpfchdlcoeaa
