/- Of no program: the abstract machine's operations that read memory. -/
import Derived.Test.YtfpcailbobjfnaaA3
set_option linter.unusedVariables false
set_option linter.unusedSimpArgs false
namespace Go.Proofs.Ytfpcailbobjfnaa
open Go Go.RowKit
theorem add_eq (b o n : Nat) : Addr.add ⟨b, o, none⟩ n = ⟨b, o + n, none⟩ := Addr.add_lit b o n
section
variable {P : Program} {E : Nat → Prop} {w : World} {pl : List (Option (Nat × Nat))} {H : AHeap} {sh : List (Nat × Nat)}
/-- Where a pointer leads: cells, and the place among them. -/
inductive Ptr (H : AHeap) (N0 : Nat) : AV → List AV → Nat → Prop where
  | fp (cs : List D) (i : Nat) : Ptr H N0 (.d (.fp cs i)) (cs.map .d) i
  | op (id i : Nat) (cs : List AV) (hn : id < N0) (h : H[id]? = some (.cells cs)) : Ptr H N0 (.op id i) cs i
theorem Ptr.cell (hr : RelH E w pl H sh) {N0 : Nat} {p : AV} {cs : List AV} {i : Nat} (h : Ptr H N0 p cs i) {v : Value} (hv : Rd w pl (ownB E H pl) p v) :
    ∃ b off, v = .pointer (some ⟨b, off + i, none⟩) ∧ ∀ j x, cs[j]? = some x → ∃ u, w.cell? ⟨b, off + j, none⟩ = some u ∧ Rd w pl (ownB E H pl) x u ∧ u.oneCell' = true := by
  cases h with
  | fp cs i =>
    cases hv with
    | d _ _ hv =>
      cases hv with
      | fp _ _ b off f hb ho hc h1 hx =>
        refine ⟨b, off, rfl, fun j x hj => ?_⟩
        rw [List.getElem?_map, Option.map_eq_some_iff] at hj
        obtain ⟨y, hy, rfl⟩ := hj
        exact ⟨f j, hc j y hy, .d _ _ (hx j y hy), h1 j y hy⟩
  | op id i _ hn h =>
    cases hv with
    | op _ _ b base hp =>
      rcases hr.obj _ _ h with ⟨_, h1⟩ | ⟨b', base', arr, t, h1, h2, h3, h4⟩ <;> rw [hp] at h1 <;> cases h1
      refine ⟨b, base, rfl, fun j x hj => ⟨_, ?_, (h4 j x hj).1, (h4 j x hj).2⟩⟩
      have hlt : base + j < arr.size := by have := (List.getElem?_eq_some_iff.1 hj).1; omega
      rw [cell_of_row _ _ _ _ _ _ h2]
      simp [Array.getD, hlt]
theorem takeD_get {α : Type} {cs l : List α} {i k : Nat} (h : takeD cs i k = some l) : l.length = k ∧ ∀ j, j < k → l[j]? = cs[i + j]? := by
  unfold takeD at h
  split at h
  · cases h
    refine ⟨by rw [List.length_take, List.length_drop]; omega, fun j hj => ?_⟩
    rw [List.getElem?_take_of_lt hj, List.getElem?_drop]
  · cases h
theorem takeD_map {α β : Type} (f : α → β) (cs : List α) (i k : Nat) : takeD (cs.map f) i k = (takeD cs i k).map (·.map f) := by
  unfold takeD
  rw [List.length_map]
  split <;> simp [List.map_take, List.map_drop]
/-- A load of k cells. -/
theorem loadCells_rd (a : Addr) (ba : a.spot = none) (l : List AV) (hl : ∀ j x, l[j]? = some x → ∃ u, w.cell? ⟨a.block, a.off + j, none⟩ = some u ∧ Rd w pl (ownB E H pl) x u ∧ u.oneCell' = true) :
    ∃ vs : Array Value, (loadCells a l.length).run P w = .ok vs w ∧ vs.size = l.length ∧ ∀ j x, l[j]? = some x → Rd w pl (ownB E H pl) x (vs.getD j undef) ∧ (vs.getD j undef).oneCell' = true := by
  obtain ⟨b, off, sp⟩ := a
  simp only at ba hl
  subst ba
  have hf : ∀ j, j < l.length → w.cell? ((⟨b, off, none⟩ : Addr).add j) = some ((w.cell? ⟨b, off + j, none⟩).getD undef) := fun j hj => by
    obtain ⟨u, hu, _⟩ := hl j _ (List.getElem?_eq_getElem hj)
    rw [add_eq, hu]; rfl
  refine ⟨_, run_loadCells w ⟨b, off, none⟩ l.length (fun j => (w.cell? ⟨b, off + j, none⟩).getD undef) hf, by simp, fun j x hj => ?_⟩
  have hlt := (List.getElem?_eq_some_iff.1 hj).1
  obtain ⟨u, hu, h1, h2⟩ := hl j x hj
  have e : ((List.range l.length).map fun j => (w.cell? ⟨b, off + j, none⟩).getD undef).toArray.getD j undef = u := by
    simp [Array.getD, hlt, hu]
  rw [e]
  exact ⟨h1, h2⟩
/-- Parts that are all data, put together. -/
def mkAgg (l : List AV) : AV := match AV.toD.toDs l with | some m => .d (.agg m) | none => .agg l
/-- What a load yields. -/
def LoadQ (P : Program) (H : AHeap) (N0 : Nat) (t : TypeId) (p : AV) (x : AV) : Prop :=
  match p with
  | .d (.fp cs i) => ∃ g k, agO P t = some g ∧ szO P t = some k ∧ if g then ∃ l, takeD cs i k = some l ∧ x = .d (.agg l) else ∃ y, cs[i]? = some y ∧ x = .d y
  | .op id i => ∃ g k, agO P t = some g ∧ szO P t = some k ∧ id < N0 ∧ ∃ cs, H[id]? = some (.cells cs) ∧ if g then ∃ l, takeD cs i k = some l ∧ x = .agg l else cs[i]? = some x
  | _ => False
theorem LoadQ.run (hr : RelH E w pl H sh) {N0 : Nat} {t : TypeId} {p x : AV} (h : LoadQ P H N0 t p x) {v : Value} (hv : Rd w pl (ownB E H pl) p v) :
    ∃ u, (Instr.loadAt t v).run P w = .ok u w ∧ Rd w pl (ownB E H pl) x u := by
  have key : ∀ (cs : List AV) (i k : Nat) (g : Bool), Ptr H N0 p cs i → agO P t = some g → szO P t = some k → (if g then ∃ l, takeD cs i k = some l ∧ (x = .agg l ∨ ∃ m : List D, l = m.map .d ∧ x = .d (.agg m)) else cs[i]? = some x) →
      ∃ u, (Instr.loadAt t v).run P w = .ok u w ∧ Rd w pl (ownB E H pl) x u := by
    intro cs i k g hp hg hk hx
    obtain ⟨b, off, rfl, hc⟩ := hp.cell hr hv
    unfold Instr.loadAt loadVar
    simp only [Instr.sureAddr, Sem.run_bind, Sem.run_pure, Result.andThen_ok, agO_run hg]
    cases g with
    | false =>
      obtain ⟨u, hu, h1, _⟩ := hc i x hx
      exact ⟨u, by simp [hu], h1⟩
    | true =>
      obtain ⟨l, hl, hx⟩ := hx
      obtain ⟨hll, hg⟩ := takeD_get hl
      obtain ⟨vs, hrun, hsz, hvs⟩ := loadCells_rd (P := P) (E := E) (w := w) (pl := pl) (H := H) ⟨b, off + i, none⟩ rfl l (fun j y hj => by
        have hlt := (List.getElem?_eq_some_iff.1 hj).1
        have := hc (i + j) y (by rw [← hg j (by omega)]; exact hj)
        simpa [Nat.add_assoc] using this)
      rw [hll] at hrun
      refine ⟨.agg vs, by simp [hrun, szO_run hk], ?_⟩
      rcases hx with rfl | ⟨m, rfl, rfl⟩
      · exact .agg _ _ hsz fun j y hj => (hvs j y hj).1
      · refine .d _ _ (.agg _ _ (by simpa using hsz) fun j y hj => ?_)
        have := (hvs j (.d y) (by rw [List.getElem?_map, hj]; rfl)).1
        cases this with
        | d _ _ h => exact h
  unfold LoadQ at h
  split at h
  · rename_i cs i
    obtain ⟨g, k, hg, hk, hx⟩ := h
    refine key _ _ k g (.fp cs i) hg hk ?_
    cases g with
    | false =>
      obtain ⟨y, hy, rfl⟩ := hx
      simp [hy]
    | true =>
      obtain ⟨l, hl, rfl⟩ := hx
      exact ⟨l.map .d, by rw [takeD_map, hl]; rfl, .inr ⟨l, rfl, rfl⟩⟩
  · rename_i id i
    obtain ⟨g, k, hg, hk, hn, cs, hc, hx⟩ := h
    refine key _ _ k g (.op id i cs hn hc) hg hk ?_
    cases g with
    | false => exact hx
    | true =>
      obtain ⟨l, hl, rfl⟩ := hx
      exact ⟨l, hl, .inl rfl⟩
  · exact h.elim
end
end Go.Proofs.Ytfpcailbobjfnaa
