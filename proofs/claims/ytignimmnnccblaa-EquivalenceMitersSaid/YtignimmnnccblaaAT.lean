/- Of no program: sets of integers, kept in maps of the call's own. -/
import Derived.Test.YtignimmnnccblaaAR
set_option linter.unusedVariables false
set_option linter.unusedSimpArgs false
namespace Go.Proofs.Ytignimmnnccblaa
open Go Go.RowKit
abbrev zle := List (Int × Nat) × Nat
def I64 (n : Int) : Prop := -9223372036854775808 ≤ n ∧ n < 9223372036854775808
def ztz (s : List (Int × Nat)) : List (Value × Nat × AV) := s.map fun p => (.int .i64 p.1, p.2, .d (.val (.bool true)))
def zny (σ : zle) : AObj := .map (ztz σ.1) σ.2
def jcf (s : List (Int × Nat)) : List (Value × Nat × Value) := s.map fun p => (.int .i64 p.1, p.2, .bool true)
def zdp (σ : zle) : List Int := σ.1.map (·.1)
def zsb (n : Int) (σ : zle) : zle := if n ∈ zdp σ then σ else (σ.1 ++ [(n, σ.2)], σ.2 + 1)
structure OkS (σ : zle) : Prop where
 i64 : ∀ p ∈ σ.1, I64 p.1
 keys : (zdp σ).Nodup
 old : ∀ p ∈ σ.1, p.2 < σ.2
 born : (σ.1.map (·.2)).Nodup
theorem mem_put {n m : Int} {σ : zle} : m ∈ zdp (zsb n σ) ↔ m = n ∨ m ∈ zdp σ := by
 unfold zsb
 split
 ·rename_i h
  exact ⟨.inr, fun h' => h'.elim (fun e => e ▸ h) fun h => h⟩
 ·simp [zdp, or_comm]
theorem OkS.put {σ : zle} (h : OkS σ) {n : Int} (hn : I64 n) : OkS (zsb n σ) := by
 unfold zsb
 split
 ·exact h
 ·rename_i hm
  refine ⟨fun p hp => ?_, ?_, fun p hp => ?_, ?_⟩
  ·rcases List.mem_append.1 hp with hp | hp
   ·exact h.i64 p hp
   ·rw [List.mem_singleton] at hp; subst hp; exact hn
  ·show (List.map (fun x : Int × Nat => x.1) (σ.1 ++ [(n, σ.2)])).Nodup
   rw [List.map_append, List.nodup_append]
   refine ⟨h.keys, by simp, fun a ha b hb => ?_⟩
   simp only [List.map_cons, List.map_nil, List.mem_singleton] at hb
   subst hb
   exact fun e => hm (e ▸ ha)
  ·rcases List.mem_append.1 hp with hp | hp
   ·exact Nat.lt_succ_of_lt (h.old p hp)
   ·rw [List.mem_singleton] at hp; subst hp; exact Nat.lt_succ_self _
  ·show (List.map (fun x : Int × Nat => x.2) (σ.1 ++ [(n, σ.2)])).Nodup
   rw [List.map_append, List.nodup_append]
   refine ⟨h.born, by simp, fun a ha b hb => ?_⟩
   simp only [List.map_cons, List.map_nil, List.mem_singleton] at hb
   subst hb
   obtain ⟨p, hp, rfl⟩ := List.mem_map.1 ha
   exact fun e => absurd (h.old p hp) (by omega)
theorem OkS.nil (n : Nat) : OkS ([], n) := ⟨fun p hp => (by cases hp), List.nodup_nil, fun p hp => (by cases hp), List.nodup_nil⟩
theorem jk0 (n : Int) (σ : zle) : (zsb n σ).1.length ≤ σ.1.length + 1 := by
 unfold zsb; split <;> simp
section
variable {P : Program} {KT : TypeId → Bool} {H : zar} {ρ : Operand → AV} {N : Nat}
def jo7 (P : Program) (KT : TypeId → Bool) (t : TypeId) : Bool :=
 match zg0 P t with
 | some (kt, et) => KT kt && (match P.underlying kt with | some (.int .i64) => true | _ => false) && (match zvO P et with | some (.d (.val (.bool false))) => true | _ => false)
 | none => false
theorem zsc {t : TypeId} (h : jo7 P KT t = true) : ∃ kt et, zg0 P t = some (kt, et) ∧ KT kt = true ∧ P.underlying kt = some (.int .i64) ∧ zvO P et = some (.d (.val (.bool false))) := by
 unfold jo7 at h
 split at h
 ·rename_i kt et hm
  simp only [Bool.and_eq_true] at h
  obtain ⟨⟨h1, h2⟩, h3⟩ := h
  refine ⟨kt, et, hm, h1, ?_, ?_⟩
  ·split at h2
   ·assumption
   ·cases h2
  ·split at h3
   ·assumption
   ·cases h3
 ·cases h
theorem zki {kt : TypeId} (hu : P.underlying kt = some (.int .i64)) {n : Int} (hn : I64 n) : (keyOf P kt (.int .i64 n)).isSome = true := by
 have hw : (Lit.int .i64 n).wf = true := by
  obtain ⟨h1, h2⟩ := hn
  simp [Lit.wf]
  exact ⟨h1, by omega⟩
 simp [keyOf, hu, mapKey, hw]
theorem zwd {kt : TypeId} (hu : P.underlying kt = some (.int .i64)) {σ : zle} (h : OkS σ) : zd2 P kt (ztz σ.1) = true := by
 refine List.all_eq_true.2 fun e he => ?_
 obtain ⟨p, hp, rfl⟩ := List.mem_map.1 he
 exact zki hu (h.i64 p hp)
theorem zpy (n : Int) : ∀ (s : List (Int × Nat)) (i : Nat), zdu (.int .i64 n) (ztz s) i = (s.findIdx? fun p => p.1 == n).map fun j => (i + j, .d (.val (.bool true)))
 | [], i => rfl
 | p :: s, i => by
  have e : vEq (.int .i64 p.1) (.int .i64 n) = (p.1 == n) := by
   simp only [vEq, vS, decide_true, Bool.true_and]; rfl
  show (if vEq (.int .i64 p.1) (.int .i64 n) then _ else _) = _
  rw [e, List.findIdx?_cons]
  by_cases hp : p.1 == n
  ·simp [hp]
  ·simp only [hp, Bool.false_eq_true, if_false, Option.map_map]
   have ih := zpy n s (i + 1)
   unfold ztz at ih
   rw [ih]
   congr 1
   funext j
   simp only [Function.comp]
   rw [show i + 1 + j = i + (j + 1) by omega]
theorem find_none {n : Int} {s : List (Int × Nat)} : (s.findIdx? fun p => p.1 == n) = none ↔ n ∉ s.map (·.1) := by
 rw [List.findIdx?_eq_none_iff]
 simp only [List.mem_map, not_exists, not_and, beq_eq_false_iff_ne, ne_eq]
theorem zt0 {s : List (Int × Nat)} {i : Nat} : (ztz s).modify i (fun q => (q.1, q.2.1, AV.d (.val (.bool true)))) = ztz s := by
 apply List.ext_getElem?
 intro j
 rw [List.getElem?_modify]
 unfold ztz
 rw [List.getElem?_map]
 cases s[j]? with
 | none => rfl
 | some p => by_cases h : i = j <;> simp [h]
def muG (P : Program) (KT : TypeId → Bool) (t : TypeId) (id : Nat) (n : Int) (y : AV) (H : zar) (o : Option AObj) : Option (AV × zar) :=
 match zg0 P t with
 | some (kt, _) => (match o with
  | some (.map es clock) => if KT kt && zji (.int .i64 n) && (keyOf P kt (.int .i64 n)).isSome && zd2 P kt es && true then
    some (.d (.val undef), H.set id (match zdu (.int .i64 n) es 0 with | some (i, _) => .map (es.modify i fun q => (q.1, q.2.1, y)) clock | none => .map (es ++ [(.int .i64 n, clock, y)]) (clock + 1))) else none
  | _ => none)
 | none => none
def jt9 (P : Program) (KT : TypeId → Bool) (ρ : Operand → AV) (op : Op) (H : zar) : Option (AV × zar) := zhx P KT ρ op H []
def muF (P : Program) (KT : TypeId → Bool) (t : TypeId) (m k y : AV) (H : zar) (o : Option (AV × zar)) : Option (AV × zar) :=
 match m, k with
 | .om id, .d (.val (.int .i64 n)) => muG P KT t id n y H (H[id]?)
 | _, _ => o
theorem zcw {t : TypeId} {id : Nat} {n : Int} {y : AV} {o : Option (AV × zar)} : muF P KT t (.om id) (.d (.val (.int .i64 n))) y H o = muG P KT t id n y H (H[id]?) := rfl
theorem zcd {t : TypeId} {m k y : Operand} : zhx P KT ρ (.mapUpdate t m k y) H [] = muF P KT t (ρ m) (ρ k) (ρ y) H (jt9 P KT ρ (.mapUpdate t m k y) H) := by
 unfold muF
 split
 ·rename_i id n hm hk
  unfold zhx muG
  simp only [hm, hk, zk4, List.all_nil, Bool.and_true]
  cases zg0 P t with
  | none => rfl
  | some q => rfl
 ·rfl
theorem zce {t : TypeId} {id : Nat} {n : Int} {σ : zle} (ht : jo7 P KT t = true) (hn : I64 n) (hσ : OkS σ) : muG P KT t id n (.d (.val (.bool true))) H (some (zny σ)) = some (.d (.val undef), H.set id (zny (zsb n σ))) := by
 obtain ⟨kt, et, hm, h1, hu, hz⟩ := zsc ht
 unfold muG zny
 simp only [hm, h1, zki hu hn, zwd hu hσ, zji, vSk, Bool.and_self, if_true, zpy]
 cases hf : σ.1.findIdx? fun p => p.1 == n with
 | none =>
  have := find_none.1 hf
  simp only [Option.map_none]
  unfold zsb zdp
  rw [if_neg this]
  simp [ztz]
 | some i =>
  have : n ∈ σ.1.map (·.1) := Decidable.of_not_not fun h => by rw [find_none.2 h] at hf; cases hf
  simp only [Option.map_some]
  unfold zsb zdp
  rw [if_pos this, zt0]
def lkG (P : Program) (KT : TypeId → Bool) (t : TypeId) (n : Int) (es : Option (List (Value × Nat × AV))) : Option AV :=
 match zg0 P t, es with
 | some (kt, et), some es => (match zvO P et with
  | some z => if KT kt && zji (.int .i64 n) && (keyOf P kt (.int .i64 n)).isSome && zd2 P kt es then some (zyg false z (zdu (.int .i64 n) es 0)) else none
  | none => none)
 | _, _ => none
theorem zcf {t : TypeId} {n : Int} {σ : zle} (ht : jo7 P KT t = true) (hn : I64 n) (hσ : OkS σ) : lkG P KT t n (some (ztz σ.1)) = some (.d (.val (.bool (decide (n ∈ zdp σ))))) := by
 obtain ⟨kt, et, hm, h1, hu, hz⟩ := zsc ht
 unfold lkG
 simp only [hm, hz, h1, zki hu hn, zwd hu hσ, zji, vSk, Bool.and_self, if_true, zpy]
 cases hf : σ.1.findIdx? fun p => p.1 == n with
 | none =>
  have := find_none.1 hf
  simp [zyg, zdp, this]
 | some i =>
  have : n ∈ σ.1.map (·.1) := Decidable.of_not_not fun h => by rw [find_none.2 h] at hf; cases hf
  simp [zyg, zdp, this]
def jml : Option AObj → Option (List (Value × Nat × AV))
 | some (.map es _) => some es
 | _ => none
theorem zb5 {σ : zle} : jml (some (zny σ)) = some (ztz σ.1) := rfl
theorem zed {t : TypeId} {n : Int} {id : Nat} (hid : id < N) : zep P N H KT t (.om id) (.d (.val (.int .i64 n))) false = lkG P KT t n (jml (H[id]?)) := by
 unfold zep lkG jml
 simp only [zc9, zk4, hid, if_true]
 cases zg0 P t with
 | none => rfl
 | some q =>
  cases H[id]? with
  | none => rfl
  | some o => cases o <;> rfl
theorem zsd : ∀ (s : List (Int × Nat)), zhp (ztz s) = some (jcf s)
 | [] => rfl
 | p :: s => by
  show (zhp (ztz s)).map _ = _
  rw [zsd s]; rfl
theorem jfs {σ : zle} : jby (zny σ) = some (jcf σ.1, σ.2) := by
 show (zhp (ztz σ.1)).map _ = _
 rw [zsd]; rfl
theorem zcx {keep : List Nat} {σ : zle} : gcO keep (zny σ) = zny σ := by
 unfold zny gcO ztz
 simp only [List.map_map]
 rfl
theorem zcy {id : Nat} {l : List D} {σ : zle} : fzO id l (zny σ) = zny σ := by
 unfold zny fzO ztz
 simp only [List.map_map]
 rfl
theorem zcz : AObj.map [] 0 = zny ([], 0) := rfl
end
end Go.Proofs.Ytignimmnnccblaa
