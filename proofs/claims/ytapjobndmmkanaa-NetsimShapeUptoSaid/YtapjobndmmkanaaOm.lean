/- Of no program: an entry of a map that is there already is set anew. -/
import Derived.Test.YtapjobndmmkanaaAV
set_option linter.unusedVariables false
set_option linter.unusedSimpArgs false
namespace Go.Proofs.Ytapjobndmmkanaa
open Go Go.RowKit
section
variable {P : Program} {KT : TypeId → Bool} {H : zag}
structure OkB (P : Program) (t : TypeId) (μ : Mp) : Prop where
 ok : OkM P t μ
 nd : (μ.1.map (·.2.1)).Nodup
theorem OkB.nil (t : TypeId) (n : Nat) : OkB P t ([], n) := ⟨OkM.nil t n, .nil⟩
theorem zpm (i : Nat) (v : Value) : ∀ (s : List (Value × Nat × Value)) (i : Nat), (s.modify i fun q => (q.1, q.2.1, v)).map (·.2.1) = s.map (·.2.1)
 | [], i => by simp
 | a :: s, 0 => by simp
 | a :: s, i + 1 => by rw [List.modify_succ_cons, List.map_cons, List.map_cons, zpm i v s i]
theorem OkB.put {t : TypeId} {μ : Mp} (h : OkB P t μ) {k v : Value} (hk : zjh P t k) : OkB P t (zl9 k v μ) := by
 refine ⟨h.ok.put hk, ?_⟩
 unfold zl9
 split
 ·rw [zpm 0]; exact h.nd
 ·simp only [List.map_append, List.map_cons, List.map_nil]
  rw [List.nodup_append]
  refine ⟨h.nd, by simp, fun a ha b hb e => ?_⟩
  obtain ⟨p, hp, rfl⟩ := List.mem_map.1 ha
  simp only [List.mem_singleton] at hb
  have := h.ok.born p hp
  omega
def zwg (k : Value) (μ : Mp) : Nat := match fiM k μ.1 with
 | some i => (μ.1.getD i (undef, 0, undef)).2.1
 | none => 0
theorem zpn {k u : Value} {μ : Mp} (h : zhm k μ = some u) : ∃ i, fiM k μ.1 = some i ∧ i < μ.1.length ∧ (μ.1.getD i (undef, 0, undef)).2.2 = u := by
 have hf := zlr k μ
 rw [h, zfn] at hf
 unfold fiM
 cases e : μ.1.findIdx? fun e => vEq e.1 k with
 | none => rw [e] at hf; cases hf
 | some i =>
  rw [e] at hf
  simp only [Option.map_some] at hf
  refine ⟨i, rfl, (List.findIdx?_eq_some_iff_getElem.1 e).1, ?_⟩
  injection hf with hf
  injection hf with hf
  injection hf
theorem jfh {t : TypeId} {id : Nat} {v u z : Value} {μ : Mp} (ht : mtB P KT t = some z) (hv : zjh P t v) (hμ : OkB P t μ) (hn : zhm v μ = some u) : meO P KT t id v H (some (mO μ)) = some (.tup [.d (.val u), .d (.val (.int .i64 (zwg v μ)))], H.set id (mO μ)) := by
 obtain ⟨kt, et, hm, h1, hz⟩ := zgn ht
 obtain ⟨i, hi, hl, hu⟩ := zpn hn
 unfold meO mO
 simp only [hm, hz, h1, hv.1, hv.2 kt et hm, hμ.ok.kb hm, Bool.and_self, if_true, zfn]
 unfold zwg
 rw [hi]
 unfold fiM at hi
 rw [hi]
 simp only [Option.map_some, Nat.zero_add, hu]
 have : (mE μ.1)[i]? = some ((μ.1.getD i (undef, 0, undef)).1, (μ.1.getD i (undef, 0, undef)).2.1, .d (.val (μ.1.getD i (undef, 0, undef)).2.2)) := by
  unfold mE; rw [List.getElem?_map, List.getD_eq_getElem?_getD, List.getElem?_eq_getElem hl]; rfl
 rw [this]; rfl
theorem zzn {i : Nat} : ∀ {s : List (Value × Nat × Value)}, (s.map (·.2.1)).Nodup → ∀ {i : Nat}, i < s.length → (mE s).findIdx? (fun q => (q.2.1 : Int) == ((s.getD i (undef, 0, undef)).2.1 : Int)) = some i
 | [], _, i, h => by simp at h
 | a :: s, hn, 0, h => by simp [mE, List.findIdx?_cons]
 | a :: s, hn, i + 1, h => by
  obtain ⟨h1, h2⟩ := List.nodup_cons.1 (show (a.2.1 :: s.map (·.2.1)).Nodup from hn)
  have hl : i < s.length := by simpa using h
  have hm : (s.getD i (undef, 0, undef)).2.1 ∈ s.map (·.2.1) := List.mem_map.2 ⟨_, by rw [List.getD_eq_getElem?_getD, List.getElem?_eq_getElem hl]; exact List.getElem_mem hl, rfl⟩
  have hne : a.2.1 ≠ (s.getD i (undef, 0, undef)).2.1 := fun e => h1 (e ▸ hm)
  have ih := zzn (i := 0) h2 hl
  show ((a.1, a.2.1, AV.d (.val a.2.2)) :: mE s).findIdx? _ = _
  rw [List.findIdx?_cons, List.getD_cons_succ]
  have : ((a.2.1 : Int) == ((s.getD i (undef, 0, undef)).2.1 : Int)) = false := by simp only [beq_eq_false_iff_ne, ne_eq]; omega
  simp only [this, ih]; rfl
theorem jfi {t : TypeId} {id : Nat} {v u w : Value} {μ : Mp} (hμ : OkB P t μ) (hn : zhm v μ = some u) : esN id (zwg v μ) (.d (.val w)) H (some (mO μ)) = some (.d (.val undef), H.set id (mO (zl9 v w μ))) := by
 obtain ⟨i, hi, hl, hu⟩ := zpn hn
 unfold esN mO zl9 zwg
 rw [hi]
 simp only
 rw [zzn (i := 0) hμ.nd hl, Option.map_some, zhh]
theorem zwh {v z : Value} {μ : Mp} (hv : zf6 v = true) (hn : zhm v μ = none) : zl9 v z μ = (μ.1 ++ [(v, μ.2, z)], μ.2 + 1) := by
 unfold zl9
 rw [(zji hv).2 ((zhg hv).1 hn)]
theorem jfj {t : TypeId} {v z : Value} {μ : Mp} (ht : mtB P KT t = some z) (hv : zjh P t v) (hμ : OkM P t μ) (hn : zhm v μ = none) : lkK P KT t (some v) false (some (mE (μ.1 ++ [(v, μ.2, z)]))) = some (.d (.val z)) := by
 classical
 have h := zga ht hv (hμ.put (v := z) hv)
 rw [zjj hv.1 hv.1, if_pos rfl, zwh hv.1 hn] at h
 exact h
end
end Go.Proofs.Ytapjobndmmkanaa
