/- Of no program: sets of integers, kept in maps of the call's own. -/
import Derived.Test.YtignimmnnccblaaAR
set_option linter.unusedVariables false
set_option linter.unusedSimpArgs false
namespace Go.Proofs.Ytignimmnnccblaa
open Go Go.RowKit
abbrev zk8 := List (Int × Nat) × Nat
def I64 (n : Int) : Prop := -9223372036854775808 ≤ n ∧ n < 9223372036854775808
def ztp (s : List (Int × Nat)) : List (Value × Nat × AV) := s.map fun p => (.int .i64 p.1, p.2, .d (.val (.bool true)))
def zny (σ : zk8) : AObj := .map (ztp σ.1) σ.2
def jby (s : List (Int × Nat)) : List (Value × Nat × Value) := s.map fun p => (.int .i64 p.1, p.2, .bool true)
def zdl (σ : zk8) : List Int := σ.1.map (·.1)
def zr1 (n : Int) (σ : zk8) : zk8 := if n ∈ zdl σ then σ else (σ.1 ++ [(n, σ.2)], σ.2 + 1)
structure OkS (σ : zk8) : Prop where
 i64 : ∀ p ∈ σ.1, I64 p.1
 keys : (zdl σ).Nodup
 old : ∀ p ∈ σ.1, p.2 < σ.2
 born : (σ.1.map (·.2)).Nodup
theorem mem_put {n m : Int} {σ : zk8} : m ∈ zdl (zr1 n σ) ↔ m = n ∨ m ∈ zdl σ := by
 unfold zr1
 split
 ·rename_i h
  exact ⟨.inr, fun h' => h'.elim (fun e => e ▸ h) fun h => h⟩
 ·simp [zdl, or_comm]
theorem OkS.put {σ : zk8} (h : OkS σ) {n : Int} (hn : I64 n) : OkS (zr1 n σ) := by
 unfold zr1
 split
 ·exact h
 ·rename_i hm
  refine ⟨fun p hp => ?_, ?_, fun p hp => ?_, ?_⟩
  ·rcases List.mem_append.1 hp with hp | hp
   ·exact h.i64 p hp
   ·rw [List.mem_singleton] at hp; subst hp; exact hn
  ·show (List.map (fun x : Int × Nat => x.1) (σ.1 ++ [(n, σ.2)])).Nodup
   rw [List.map_append, List.nodup_append]
   refine ⟨h.keys, by simp, fun a ha b hb => ?_⟩
   simp only [List.map_cons, List.map_nil, List.mem_singleton] at hb
   subst hb
   exact fun e => hm (e ▸ ha)
  ·rcases List.mem_append.1 hp with hp | hp
   ·exact Nat.lt_succ_of_lt (h.old p hp)
   ·rw [List.mem_singleton] at hp; subst hp; exact Nat.lt_succ_self _
  ·show (List.map (fun x : Int × Nat => x.2) (σ.1 ++ [(n, σ.2)])).Nodup
   rw [List.map_append, List.nodup_append]
   refine ⟨h.born, by simp, fun a ha b hb => ?_⟩
   simp only [List.map_cons, List.map_nil, List.mem_singleton] at hb
   subst hb
   obtain ⟨p, hp, rfl⟩ := List.mem_map.1 ha
   exact fun e => absurd (h.old p hp) (by omega)
theorem OkS.nil (n : Nat) : OkS ([], n) := ⟨fun p hp => (by cases hp), List.nodup_nil, fun p hp => (by cases hp), List.nodup_nil⟩
theorem jkr (n : Int) (σ : zk8) : (zr1 n σ).1.length ≤ σ.1.length + 1 := by
 unfold zr1; split <;> simp
section
variable {P : Program} {KT : TypeId → Bool} {H : zap} {ρ : Operand → AV} {N : Nat}
def joq (P : Program) (KT : TypeId → Bool) (t : TypeId) : Bool :=
 match zgr P t with
 | some (kt, et) => KT kt && (match P.underlying kt with | some (.int .i64) => true | _ => false) && (match zvO P et with | some (.d (.val (.bool false))) => true | _ => false)
 | none => false
theorem zr2 {t : TypeId} (h : joq P KT t = true) : ∃ kt et, zgr P t = some (kt, et) ∧ KT kt = true ∧ P.underlying kt = some (.int .i64) ∧ zvO P et = some (.d (.val (.bool false))) := by
 unfold joq at h
 split at h
 ·rename_i kt et hm
  simp only [Bool.and_eq_true] at h
  obtain ⟨⟨h1, h2⟩, h3⟩ := h
  refine ⟨kt, et, hm, h1, ?_, ?_⟩
  ·split at h2
   ·assumption
   ·cases h2
  ·split at h3
   ·assumption
   ·cases h3
 ·cases h
theorem zke {kt : TypeId} (hu : P.underlying kt = some (.int .i64)) {n : Int} (hn : I64 n) : (keyOf P kt (.int .i64 n)).isSome = true := by
 have hw : (Lit.int .i64 n).wf = true := by
  obtain ⟨h1, h2⟩ := hn
  simp [Lit.wf]
  exact ⟨h1, by omega⟩
 simp [keyOf, hu, mapKey, hw]
theorem zv6 {kt : TypeId} (hu : P.underlying kt = some (.int .i64)) {σ : zk8} (h : OkS σ) : zd4 P kt (ztp σ.1) = true := by
 refine List.all_eq_true.2 fun e he => ?_
 obtain ⟨p, hp, rfl⟩ := List.mem_map.1 he
 exact zke hu (h.i64 p hp)
theorem zpv (n : Int) : ∀ (s : List (Int × Nat)) (i : Nat), zds (.int .i64 n) (ztp s) i = (s.findIdx? fun p => p.1 == n).map fun j => (i + j, .d (.val (.bool true)))
 | [], i => rfl
 | p :: s, i => by
  have e : vEq (.int .i64 p.1) (.int .i64 n) = (p.1 == n) := by
   simp only [vEq, vS, decide_true, Bool.true_and]; rfl
  show (if vEq (.int .i64 p.1) (.int .i64 n) then _ else _) = _
  rw [e, List.findIdx?_cons]
  by_cases hp : p.1 == n
  ·simp [hp]
  ·simp only [hp, Bool.false_eq_true, if_false, Option.map_map]
   have ih := zpv n s (i + 1)
   unfold ztp at ih
   rw [ih]
   congr 1
   funext j
   simp only [Function.comp]
   rw [show i + 1 + j = i + (j + 1) by omega]
theorem find_none {n : Int} {s : List (Int × Nat)} : (s.findIdx? fun p => p.1 == n) = none ↔ n ∉ s.map (·.1) := by
 rw [List.findIdx?_eq_none_iff]
 simp only [List.mem_map, not_exists, not_and, beq_eq_false_iff_ne, ne_eq]
theorem ztq {s : List (Int × Nat)} {i : Nat} : (ztp s).modify i (fun q => (q.1, q.2.1, AV.d (.val (.bool true)))) = ztp s := by
 apply List.ext_getElem?
 intro j
 rw [List.getElem?_modify]
 unfold ztp
 rw [List.getElem?_map]
 cases s[j]? with
 | none => rfl
 | some p => by_cases h : i = j <;> simp [h]
def muG (P : Program) (KT : TypeId → Bool) (t : TypeId) (id : Nat) (n : Int) (y : AV) (H : zap) (o : Option AObj) : Option (AV × zap) :=
 match zgr P t with
 | some (kt, _) => (match o with
  | some (.map es clock) => if KT kt && zjc (.int .i64 n) && (keyOf P kt (.int .i64 n)).isSome && zd4 P kt es && true then
    some (.d (.val undef), H.set id (match zds (.int .i64 n) es 0 with | some (i, _) => .map (es.modify i fun q => (q.1, q.2.1, y)) clock | none => .map (es ++ [(.int .i64 n, clock, y)]) (clock + 1))) else none
  | _ => none)
 | none => none
def jtq (P : Program) (KT : TypeId → Bool) (ρ : Operand → AV) (op : Op) (H : zap) : Option (AV × zap) := zhq P KT ρ op H []
def muF (P : Program) (KT : TypeId → Bool) (t : TypeId) (m k y : AV) (H : zap) (o : Option (AV × zap)) : Option (AV × zap) :=
 match m, k with
 | .om id, .d (.val (.int .i64 n)) => muG P KT t id n y H (H[id]?)
 | _, _ => o
theorem zcs {t : TypeId} {id : Nat} {n : Int} {y : AV} {o : Option (AV × zap)} : muF P KT t (.om id) (.d (.val (.int .i64 n))) y H o = muG P KT t id n y H (H[id]?) := rfl
theorem zcc {t : TypeId} {m k y : Operand} : zhq P KT ρ (.mapUpdate t m k y) H [] = muF P KT t (ρ m) (ρ k) (ρ y) H (jtq P KT ρ (.mapUpdate t m k y) H) := by
 unfold muF
 split
 ·rename_i id n hm hk
  unfold zhq muG
  simp only [hm, hk, zky, List.all_nil, Bool.and_true]
  cases zgr P t with
  | none => rfl
  | some q => rfl
 ·rfl
theorem zcd {t : TypeId} {id : Nat} {n : Int} {σ : zk8} (ht : joq P KT t = true) (hn : I64 n) (hσ : OkS σ) : muG P KT t id n (.d (.val (.bool true))) H (some (zny σ)) = some (.d (.val undef), H.set id (zny (zr1 n σ))) := by
 obtain ⟨kt, et, hm, h1, hu, hz⟩ := zr2 ht
 unfold muG zny
 simp only [hm, h1, zke hu hn, zv6 hu hσ, zjc, vSk, Bool.and_self, if_true, zpv]
 cases hf : σ.1.findIdx? fun p => p.1 == n with
 | none =>
  have := find_none.1 hf
  simp only [Option.map_none]
  unfold zr1 zdl
  rw [if_neg this]
  simp [ztp]
 | some i =>
  have : n ∈ σ.1.map (·.1) := Decidable.of_not_not fun h => by rw [find_none.2 h] at hf; cases hf
  simp only [Option.map_some]
  unfold zr1 zdl
  rw [if_pos this, ztq]
def lkG (P : Program) (KT : TypeId → Bool) (t : TypeId) (n : Int) (es : Option (List (Value × Nat × AV))) : Option AV :=
 match zgr P t, es with
 | some (kt, et), some es => (match zvO P et with
  | some z => if KT kt && zjc (.int .i64 n) && (keyOf P kt (.int .i64 n)).isSome && zd4 P kt es then some (zyb false z (zds (.int .i64 n) es 0)) else none
  | none => none)
 | _, _ => none
theorem zce {t : TypeId} {n : Int} {σ : zk8} (ht : joq P KT t = true) (hn : I64 n) (hσ : OkS σ) : lkG P KT t n (some (ztp σ.1)) = some (.d (.val (.bool (decide (n ∈ zdl σ))))) := by
 obtain ⟨kt, et, hm, h1, hu, hz⟩ := zr2 ht
 unfold lkG
 simp only [hm, hz, h1, zke hu hn, zv6 hu hσ, zjc, vSk, Bool.and_self, if_true, zpv]
 cases hf : σ.1.findIdx? fun p => p.1 == n with
 | none =>
  have := find_none.1 hf
  simp [zyb, zdl, this]
 | some i =>
  have : n ∈ σ.1.map (·.1) := Decidable.of_not_not fun h => by rw [find_none.2 h] at hf; cases hf
  simp [zyb, zdl, this]
def jl6 : Option AObj → Option (List (Value × Nat × AV))
 | some (.map es _) => some es
 | _ => none
theorem zb4 {σ : zk8} : jl6 (some (zny σ)) = some (ztp σ.1) := rfl
theorem zed {t : TypeId} {n : Int} {id : Nat} (hid : id < N) : zeo P N H KT t (.om id) (.d (.val (.int .i64 n))) false = lkG P KT t n (jl6 (H[id]?)) := by
 unfold zeo lkG jl6
 simp only [zc5, zky, hid, if_true]
 cases zgr P t with
 | none => rfl
 | some q =>
  cases H[id]? with
  | none => rfl
  | some o => cases o <;> rfl
theorem zr3 : ∀ (s : List (Int × Nat)), zhl (ztp s) = some (jby s)
 | [] => rfl
 | p :: s => by
  show (zhl (ztp s)).map _ = _
  rw [zr3 s]; rfl
theorem jff {σ : zk8} : jbi (zny σ) = some (jby σ.1, σ.2) := by
 show (zhl (ztp σ.1)).map _ = _
 rw [zr3]; rfl
theorem zct {keep : List Nat} {σ : zk8} : gcO keep (zny σ) = zny σ := by
 unfold zny gcO ztp
 simp only [List.map_map]
 rfl
theorem zcu {id : Nat} {l : List D} {σ : zk8} : fzO id l (zny σ) = zny σ := by
 unfold zny fzO ztp
 simp only [List.map_map]
 rfl
theorem zcv : AObj.map [] 0 = zny ([], 0) := rfl
end
end Go.Proofs.Ytignimmnnccblaa
