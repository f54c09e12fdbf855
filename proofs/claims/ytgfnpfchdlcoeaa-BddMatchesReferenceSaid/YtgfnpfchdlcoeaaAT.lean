/- Of no program: sets of integers, kept in maps of the call's own. -/
import Derived.Test.YtgfnpfchdlcoeaaAR
set_option linter.unusedVariables false
set_option linter.unusedSimpArgs false
namespace Go.Proofs.Ytgfnpfchdlcoeaa
open Go Go.RowKit
abbrev znl := List (Int × Nat) × Nat
def I64 (n : Int) : Prop := -9223372036854775808 ≤ n ∧ n < 9223372036854775808
def zw6 (s : List (Int × Nat)) : List (Value × Nat × AV) := s.map fun p => (.int .i64 p.1, p.2, .d (.val (.bool true)))
def zqx (σ : znl) : AObj := .map (zw6 σ.1) σ.2
def jd2 (s : List (Int × Nat)) : List (Value × Nat × Value) := s.map fun p => (.int .i64 p.1, p.2, .bool true)
def zem (σ : znl) : List Int := σ.1.map (·.1)
def zvh (n : Int) (σ : znl) : znl := if n ∈ zem σ then σ else (σ.1 ++ [(n, σ.2)], σ.2 + 1)
structure OkS (σ : znl) : Prop where
 i64 : ∀ p ∈ σ.1, I64 p.1
 keys : (zem σ).Nodup
 old : ∀ p ∈ σ.1, p.2 < σ.2
 born : (σ.1.map (·.2)).Nodup
theorem mem_put {n m : Int} {σ : znl} : m ∈ zem (zvh n σ) ↔ m = n ∨ m ∈ zem σ := by
 unfold zvh
 split
 ·rename_i h
  exact ⟨.inr, fun h' => h'.elim (fun e => e ▸ h) fun h => h⟩
 ·simp [zem, or_comm]
theorem OkS.put {σ : znl} (h : OkS σ) {n : Int} (hn : I64 n) : OkS (zvh n σ) := by
 unfold zvh
 split
 ·exact h
 ·rename_i hm
  refine ⟨fun p hp => ?_, ?_, fun p hp => ?_, ?_⟩
  ·rcases List.mem_append.1 hp with hp | hp
   ·exact h.i64 p hp
   ·rw [List.mem_singleton] at hp; subst hp; exact hn
  ·show (List.map (fun x : Int × Nat => x.1) (σ.1 ++ [(n, σ.2)])).Nodup
   rw [List.map_append, List.nodup_append]
   refine ⟨h.keys, by simp, fun a ha b hb => ?_⟩
   simp only [List.map_cons, List.map_nil, List.mem_singleton] at hb
   subst hb
   exact fun e => hm (e ▸ ha)
  ·rcases List.mem_append.1 hp with hp | hp
   ·exact Nat.lt_succ_of_lt (h.old p hp)
   ·rw [List.mem_singleton] at hp; subst hp; exact Nat.lt_succ_self _
  ·show (List.map (fun x : Int × Nat => x.2) (σ.1 ++ [(n, σ.2)])).Nodup
   rw [List.map_append, List.nodup_append]
   refine ⟨h.born, by simp, fun a ha b hb => ?_⟩
   simp only [List.map_cons, List.map_nil, List.mem_singleton] at hb
   subst hb
   obtain ⟨p, hp, rfl⟩ := List.mem_map.1 ha
   exact fun e => absurd (h.old p hp) (by omega)
theorem OkS.nil (n : Nat) : OkS ([], n) := ⟨fun p hp => (by cases hp), List.nodup_nil, fun p hp => (by cases hp), List.nodup_nil⟩
theorem jkp (n : Int) (σ : znl) : (zvh n σ).1.length ≤ σ.1.length + 1 := by
 unfold zvh; split <;> simp
section
variable {P : Program} {KT : TypeId → Bool} {H : zal} {ρ : Operand → AV} {N : Nat}
def jnq (P : Program) (KT : TypeId → Bool) (t : TypeId) : Bool :=
 match zh9 P t with
 | some (kt, et) => KT kt && (match P.underlying kt with | some (.int .i64) => true | _ => false) && (match zvO P et with | some (.d (.val (.bool false))) => true | _ => false)
 | none => false
theorem zvi {t : TypeId} (h : jnq P KT t = true) : ∃ kt et, zh9 P t = some (kt, et) ∧ KT kt = true ∧ P.underlying kt = some (.int .i64) ∧ zvO P et = some (.d (.val (.bool false))) := by
 unfold jnq at h
 split at h
 ·rename_i kt et hm
  simp only [Bool.and_eq_true] at h
  obtain ⟨⟨h1, h2⟩, h3⟩ := h
  refine ⟨kt, et, hm, h1, ?_, ?_⟩
  ·split at h2
   ·assumption
   ·cases h2
  ·split at h3
   ·assumption
   ·cases h3
 ·cases h
theorem zl6 {kt : TypeId} (hu : P.underlying kt = some (.int .i64)) {n : Int} (hn : I64 n) : (keyOf P kt (.int .i64 n)).isSome = true := by
 have hw : (Lit.int .i64 n).wf = true := by
  obtain ⟨h1, h2⟩ := hn
  simp [Lit.wf]
  exact ⟨h1, by omega⟩
 simp [keyOf, hu, mapKey, hw]
theorem zyr {kt : TypeId} (hu : P.underlying kt = some (.int .i64)) {σ : znl} (h : OkS σ) : ze5 P kt (zw6 σ.1) = true := by
 refine List.all_eq_true.2 fun e he => ?_
 obtain ⟨p, hp, rfl⟩ := List.mem_map.1 he
 exact zl6 hu (h.i64 p hp)
theorem zto (n : Int) : ∀ (s : List (Int × Nat)) (i : Nat), zev (.int .i64 n) (zw6 s) i = (s.findIdx? fun p => p.1 == n).map fun j => (i + j, .d (.val (.bool true)))
 | [], i => rfl
 | p :: s, i => by
  have e : vEq (.int .i64 p.1) (.int .i64 n) = (p.1 == n) := by
   simp only [vEq, vS, decide_true, Bool.true_and]; rfl
  show (if vEq (.int .i64 p.1) (.int .i64 n) then _ else _) = _
  rw [e, List.findIdx?_cons]
  by_cases hp : p.1 == n
  ·simp [hp]
  ·simp only [hp, Bool.false_eq_true, if_false, Option.map_map]
   have ih := zto n s (i + 1)
   unfold zw6 at ih
   rw [ih]
   congr 1
   funext j
   simp only [Function.comp]
   rw [show i + 1 + j = i + (j + 1) by omega]
theorem find_none {n : Int} {s : List (Int × Nat)} : (s.findIdx? fun p => p.1 == n) = none ↔ n ∉ s.map (·.1) := by
 rw [List.findIdx?_eq_none_iff]
 simp only [List.mem_map, not_exists, not_and, beq_eq_false_iff_ne, ne_eq]
theorem zw7 {s : List (Int × Nat)} {i : Nat} : (zw6 s).modify i (fun q => (q.1, q.2.1, AV.d (.val (.bool true)))) = zw6 s := by
 apply List.ext_getElem?
 intro j
 rw [List.getElem?_modify]
 unfold zw6
 rw [List.getElem?_map]
 cases s[j]? with
 | none => rfl
 | some p => by_cases h : i = j <;> simp [h]
def muG (P : Program) (KT : TypeId → Bool) (t : TypeId) (id : Nat) (n : Int) (y : AV) (H : zal) (o : Option AObj) : Option (AV × zal) :=
 match zh9 P t with
 | some (kt, _) => (match o with
  | some (.map es clock) => if KT kt && zjz (.int .i64 n) && (keyOf P kt (.int .i64 n)).isSome && ze5 P kt es && true then
    some (.d (.val undef), H.set id (match zev (.int .i64 n) es 0 with | some (i, _) => .map (es.modify i fun q => (q.1, q.2.1, y)) clock | none => .map (es ++ [(.int .i64 n, clock, y)]) (clock + 1))) else none
  | _ => none)
 | none => none
def js4 (P : Program) (KT : TypeId → Bool) (ρ : Operand → AV) (op : Op) (H : zal) : Option (AV × zal) := zi1 P KT ρ op H []
def muF (P : Program) (KT : TypeId → Bool) (t : TypeId) (m k y : AV) (H : zal) (o : Option (AV × zal)) : Option (AV × zal) :=
 match m, k with
 | .om id, .d (.val (.int .i64 n)) => muG P KT t id n y H (H[id]?)
 | _, _ => o
theorem zsh {t : TypeId} {id : Nat} {n : Int} {y : AV} {o : Option (AV × zal)} : muF P KT t (.om id) (.d (.val (.int .i64 n))) y H o = muG P KT t id n y H (H[id]?) := rfl
theorem zpi {t : TypeId} {m k y : Operand} : zi1 P KT ρ (.mapUpdate t m k y) H [] = muF P KT t (ρ m) (ρ k) (ρ y) H (js4 P KT ρ (.mapUpdate t m k y) H) := by
 unfold muF
 split
 ·rename_i id n hm hk
  unfold zi1 muG
  simp only [hm, hk, zmn, List.all_nil, Bool.and_true]
  cases zh9 P t with
  | none => rfl
  | some q => rfl
 ·rfl
theorem znm {t : TypeId} {id : Nat} {n : Int} {σ : znl} (ht : jnq P KT t = true) (hn : I64 n) (hσ : OkS σ) : muG P KT t id n (.d (.val (.bool true))) H (some (zqx σ)) = some (.d (.val undef), H.set id (zqx (zvh n σ))) := by
 obtain ⟨kt, et, hm, h1, hu, hz⟩ := zvi ht
 unfold muG zqx
 simp only [hm, h1, zl6 hu hn, zyr hu hσ, zjz, vSk, Bool.and_self, if_true, zto]
 cases hf : σ.1.findIdx? fun p => p.1 == n with
 | none =>
  have := find_none.1 hf
  simp only [Option.map_none]
  unfold zvh zem
  rw [if_neg this]
  simp [zw6]
 | some i =>
  have : n ∈ σ.1.map (·.1) := Decidable.of_not_not fun h => by rw [find_none.2 h] at hf; cases hf
  simp only [Option.map_some]
  unfold zvh zem
  rw [if_pos this, zw7]
def lkG (P : Program) (KT : TypeId → Bool) (t : TypeId) (n : Int) (es : Option (List (Value × Nat × AV))) : Option AV :=
 match zh9 P t, es with
 | some (kt, et), some es => (match zvO P et with
  | some z => if KT kt && zjz (.int .i64 n) && (keyOf P kt (.int .i64 n)).isSome && ze5 P kt es then some (zz6 false z (zev (.int .i64 n) es 0)) else none
  | none => none)
 | _, _ => none
theorem zpj {t : TypeId} {n : Int} {σ : znl} (ht : jnq P KT t = true) (hn : I64 n) (hσ : OkS σ) : lkG P KT t n (some (zw6 σ.1)) = some (.d (.val (.bool (decide (n ∈ zem σ))))) := by
 obtain ⟨kt, et, hm, h1, hu, hz⟩ := zvi ht
 unfold lkG
 simp only [hm, hz, h1, zl6 hu hn, zyr hu hσ, zjz, vSk, Bool.and_self, if_true, zto]
 cases hf : σ.1.findIdx? fun p => p.1 == n with
 | none =>
  have := find_none.1 hf
  simp [zz6, zem, this]
 | some i =>
  have : n ∈ σ.1.map (·.1) := Decidable.of_not_not fun h => by rw [find_none.2 h] at hf; cases hf
  simp [zz6, zem, this]
def jm1 : Option AObj → Option (List (Value × Nat × AV))
 | some (.map es _) => some es
 | _ => none
theorem zl7 {σ : znl} : jm1 (some (zqx σ)) = some (zw6 σ.1) := rfl
theorem jd3 {t : TypeId} {n : Int} {id : Nat} (hid : id < N) : zfx P N H KT t (.om id) (.d (.val (.int .i64 n))) false = lkG P KT t n (jm1 (H[id]?)) := by
 unfold zfx lkG jm1
 simp only [zd3, zmn, hid, if_true]
 cases zh9 P t with
 | none => rfl
 | some q =>
  cases H[id]? with
  | none => rfl
  | some o => cases o <;> rfl
theorem zvj : ∀ (s : List (Int × Nat)), ziv (zw6 s) = some (jd2 s)
 | [] => rfl
 | p :: s => by
  show (ziv (zw6 s)).map _ = _
  rw [zvj s]; rfl
theorem jg3 {σ : znl} : jdz (zqx σ) = some (jd2 σ.1, σ.2) := by
 show (ziv (zw6 σ.1)).map _ = _
 rw [zvj]; rfl
theorem zpk {keep : List Nat} {σ : znl} : gcO keep (zqx σ) = zqx σ := by
 unfold zqx gcO zw6
 simp only [List.map_map]
 rfl
theorem zys {id : Nat} {l : List D} {σ : znl} : fzO id l (zqx σ) = zqx σ := by
 unfold zqx fzO zw6
 simp only [List.map_map]
 rfl
theorem zsi : AObj.map [] 0 = zqx ([], 0) := rfl
end
end Go.Proofs.Ytgfnpfchdlcoeaa
