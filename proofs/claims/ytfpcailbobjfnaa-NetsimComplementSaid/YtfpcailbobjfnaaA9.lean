/- Of no program: the abstract machine's append. -/
import Derived.Test.YtfpcailbobjfnaaA8
set_option linter.unusedVariables false
set_option linter.unusedSimpArgs false
namespace Go.Proofs.Ytfpcailbobjfnaa
open Go Go.RowKit
section
variable {P : Program} {c : Cx} {τ : Fr} {a : Act} {w w' : World} {pl pl' : List (Option (Nat × Nat))} {H : AHeap} {sh : List (Nat × Nat)} {own : Nat → Prop}
/-- The cells that a slice of m elements of s cells gives to an append. -/
inductive Src (H : AHeap) (s : Nat) : AV → Nat → List AV → Prop where
  | fs (cs : List D) (n : Nat) (hl : cs.length = n * s) : Src H s (.d (.fs cs n)) n (cs.map .d)
  | os (id off n : Nat) (cs l : List AV) (h : H[id]? = some (.cells cs)) (ht : takeD cs off (n * s) = some l) : Src H s (.os s id off n) n l
  | nil : Src H s (.d (.val (.slice none 0 0))) 0 []
theorem Src.len {s m : Nat} {x : AV} {l : List AV} (h : Src H s x m l) : l.length = m * s := by
  cases h with
  | fs cs n hl => simpa using hl
  | os id off n cs l h ht => exact (takeD_get ht).1
  | nil => simp
theorem Src.get (hr : RelH c.E w pl H sh) {s m : Nat} {x : AV} {l : List AV} (h : Src H s x m l) {v : Value} (hv : Rd w pl (ownB c.E H pl) x v) :
    ∃ (ad : Option Addr) (cp : Nat) (news : List Value), v = .slice ad m cp ∧ news.length = m * s ∧ (∀ j y, l[j]? = some y → Rd w pl (ownB c.E H pl) y (news.getD j undef) ∧ (news.getD j undef).oneCell' = true) ∧
      (∀ w', (∀ b o, w'.cell? ⟨b, o, none⟩ = w.cell? ⟨b, o, none⟩) → (Builtin.firstCells s m v).run P w' = .ok news.toArray w') := by
  have hlen := h.len
  have zero : ∀ (ad : Option Addr) (cp : Nat), m = 0 → v = .slice ad 0 cp → ∃ (ad : Option Addr) (cp : Nat) (news : List Value), v = .slice ad m cp ∧ news.length = m * s ∧ (∀ j y, l[j]? = some y → Rd w pl (ownB c.E H pl) y (news.getD j undef) ∧ (news.getD j undef).oneCell' = true) ∧
      (∀ w', (∀ b o, w'.cell? ⟨b, o, none⟩ = w.cell? ⟨b, o, none⟩) → (Builtin.firstCells s m v).run P w' = .ok news.toArray w') := by
    rintro ad cp rfl rfl
    have hl0 : l = [] := List.eq_nil_of_length_eq_zero (by simpa using hlen)
    subst hl0
    refine ⟨ad, cp, [], rfl, by simp, fun j y hj => by simp at hj, fun w' _ => ?_⟩
    cases ad <;> simp [Builtin.firstCells, loadCells, loadCellsFrom]
  have main : ∀ (b off cp : Nat), v = .slice (some ⟨b, off, none⟩) m cp → (∀ j y, l[j]? = some y → ∃ u, w.cell? ⟨b, off + j, none⟩ = some u ∧ Rd w pl (ownB c.E H pl) y u ∧ u.oneCell' = true) → ∃ (ad : Option Addr) (cp : Nat) (news : List Value), v = .slice ad m cp ∧ news.length = m * s ∧ (∀ j y, l[j]? = some y → Rd w pl (ownB c.E H pl) y (news.getD j undef) ∧ (news.getD j undef).oneCell' = true) ∧
      (∀ w', (∀ b o, w'.cell? ⟨b, o, none⟩ = w.cell? ⟨b, o, none⟩) → (Builtin.firstCells s m v).run P w' = .ok news.toArray w') := by
    rintro b off cp rfl hc
    refine ⟨_, _, (List.range l.length).map fun j => (w.cell? ⟨b, off + j, none⟩).getD undef, rfl, by simp [hlen], fun j y hj => ?_, fun w' hw => ?_⟩
    · have hlt := (List.getElem?_eq_some_iff.1 hj).1
      obtain ⟨u, hu, h1, h2⟩ := hc j y hj
      have e : ((List.range l.length).map fun j => (w.cell? ⟨b, off + j, none⟩).getD undef).getD j undef = u := by simp [hlt, hu]
      rw [e]; exact ⟨h1, h2⟩
    · refine run_firstCells_some (P := P) w' s m ⟨b, off, none⟩ m cp _ (by simp [hlen]) fun j u hj => ?_
      have hlt : j < l.length := by have := (List.getElem?_eq_some_iff.1 hj).1; simpa using this
      obtain ⟨u', hu, _⟩ := hc j _ (List.getElem?_eq_getElem hlt)
      rw [add_eq, hw, hu]
      simp [hlt, hu] at hj
      rw [hj]
  cases h with
  | fs cs n hl =>
    cases hv with | d _ _ hv =>
    cases hv with
    | f0 ad cap hm hn => exact zero ad cap rfl rfl
    | fs _ _ cap b off f hb ho hn hm hc h1 hx =>
      refine main b off cap rfl fun j y hj => ?_
      rw [List.getElem?_map, Option.map_eq_some_iff] at hj
      obtain ⟨z, hz, rfl⟩ := hj
      exact ⟨_, hc j z hz, .d _ _ (hx j z hz), h1 j z hz⟩
  | os id off n cs l h ht =>
    cases hv with
    | os _ _ _ _ cap b base sz t hp hsh hn hm hz =>
      refine main b (base + off) cap rfl fun j y hj => ?_
      obtain ⟨h1, h2⟩ := takeD_get ht
      have hjn : j < m * s := by have := (List.getElem?_eq_some_iff.1 hj).1; omega
      rw [h2 j hjn] at hj
      rcases hr.obj _ _ h with ⟨he, hnn⟩ | ⟨b', base', arr, t', k1, k2, k3, k4⟩
      · rw [hp] at hnn; cases hnn
      · rw [hp] at k1; cases k1
        have hlt : base + (off + j) < arr.size := by have := (List.getElem?_eq_some_iff.1 hj).1; omega
        refine ⟨_, ?_, (k4 _ _ hj).1, (k4 _ _ hj).2⟩
        rw [Nat.add_assoc, cell_of_row _ _ _ _ _ _ k2]
        simp [Array.getD, hlt]
    | os0 _ _ _ ad => exact zero ad 0 rfl rfl
  | nil =>
    cases hv with | d _ _ hv => cases hv; exact zero none 0 rfl rfl

/-! ### The two ways of an append -/
theorem append_room {t ty e : TypeId} {s : Nat} (he : elO P t = some (none, e, s)) (ad : Option Addr) (n cap : Nat) (x : Value) (m cp : Nat) (xa : Option Addr) (hx : x = .slice xa m cp) (news : Array Value) (hf : (Builtin.firstCells s m x).run P w = .ok news w) (hroom : n + m ≤ cap)
    (hst : ∀ a, ad = some a → (storeCells (a.add (n * s)) news.toList).run P w = .ok () w') (hnone : ad = none → w' = w) :
    (Builtin.append_ #[t, t] ty #[.slice ad n cap, x]).run P w = .ok (.slice ad (n + m) cap) w' := by
  obtain ⟨hu, hs⟩ := elO_slice he
  subst hx
  cases ad with
  | none => rw [hnone rfl]; simp [Builtin.append_, run_underlying hu, szO_run hs, Builtin.lenOf, hroom, hf]
  | some a => simp [Builtin.append_, run_underlying hu, szO_run hs, Builtin.lenOf, hroom, hf, hst a rfl]
theorem append_grow {t ty e : TypeId} {s bts : Nat} (he : elO P t = some (none, e, s)) (hby : byO P e = some bts) {zs : List D} (hz : zcO P e = some zs) (base : Value) (ad : Option Addr) (n cap : Nat) (hbase : base = .slice ad n cap) (x : Value) (m cp : Nat) (xa : Option Addr) (hx : x = .slice xa m cp) (olds news : Array Value)
    (ho : (Builtin.firstCells s n base).run P w.drew = .ok olds w.drew) (hf : (Builtin.firstCells s m x).run P w.drew = .ok news w.drew) (hg : ¬ n + m ≤ cap) (h63 : n + m ≤ maxLen) (hb : (n + m) * bts ≤ 140737488355328) :
    ∃ z : Value, z.cells.toList.map D.val = zs ∧ (Builtin.append_ #[t, t] ty #[base, x]).run P w = .ok (.slice (some ⟨w.heap.size, 0, none⟩) (n + m) (grownCap w (n + m) cap e)) (w.drew.alloc (.cells (olds ++ news ++ Builtin.zeroCells z.cells (grownCap w (n + m) cap e - (n + m))) e)) := by
  obtain ⟨hu, hs⟩ := elO_slice he
  unfold zcO at hz
  obtain ⟨z, hz0, hzz⟩ := Option.map_eq_some_iff.1 hz
  obtain ⟨i, hi, hz'⟩ := Option.bind_eq_some_iff.1 hz0
  have hbi : i.bytes = bts := by unfold byO at hby; rw [hi] at hby; exact Option.some.inj hby
  subst hx
  subst hbase
  have h63' : ¬ (9223372036854775807 < ((n : Int) + (m : Int))) := by unfold maxLen at h63; omega
  have hfit := growslice_fits (need := n + m) (old := cap) (bytes := bts) (by omega) hb
  have h48' : ¬ (281474976710656 < Builtin.nextslicecap (n + m) cap * bts) := by omega
  refine ⟨z, hzz, ?_⟩
  simp [Builtin.append_, run_underlying hu, szO_run hs, typeInfo, zeroValue, hi, hz', hbi, Builtin.lenOf, hg, h63', h48', Question.forced, ho, hf, newRow, grownCap]
end
end Go.Proofs.Ytfpcailbobjfnaa
