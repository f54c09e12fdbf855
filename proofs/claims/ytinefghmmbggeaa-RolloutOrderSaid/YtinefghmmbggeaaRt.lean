/- Reports of rollouts: plain laws. -/
import Derived.Test.YtinefghmmbggeaaRsa
set_option linter.unusedVariables false
set_option linter.unusedSimpArgs false
namespace Go.Proofs.Ytinefghmmbggeaa
open Go Go.RowKit
theorem mem_ready {r : Rol} {x : Int} : x ∈ readyG r ↔ (r.st = 0 ∨ r.st = 2) ∧ x ∈ uptoL r (r.pos + 1) ∧ x ∉ r.dn := by
  unfold readyG
  by_cases h : r.st = 0 ∨ r.st = 2
  · rw [if_pos h, mem_listS, mem_left, List.take_length]
    exact ⟨fun k => ⟨h, k⟩, fun k => k.2⟩
  · rw [if_neg h]
    exact ⟨fun k => (by cases k), fun k => (h k.1).elim⟩
theorem inc_ready {r : Rol} (hi : OkI r) : Inc (readyG r) := by
  unfold readyG
  split
  · exact inc_listS (OkS.left hi _)
  · exact List.Pairwise.nil
theorem nth_upto {r : Rol} (h0 : 0 ≤ r.pos) (h2 : r.pos < r.wv.length) {x : Int} : x ∈ uptoL r (r.pos + 1) ↔ x ∈ uptoL r r.pos ∨ x ∈ nth r.wv r.pos.toNat := by
  constructor
  · intro hx
    obtain ⟨j, j1, j2, j3⟩ := mem_upto.1 hx
    rcases (show (j : Int) < r.pos ∨ j = r.pos.toNat from by omega) with hj | rfl
    · exact .inl (mem_upto.2 ⟨j, hj, j2, j3⟩)
    · exact .inr j3
  · rintro (hx | hx)
    · exact upto_mono (by omega) hx
    · exact mem_upto.2 ⟨r.pos.toNat, by omega, by omega, hx⟩
theorem wave_lt {w : List (List Int)} (hw : w.flatten.Nodup) {r : Rol} (e : r.wv = w) {c n : Int} (hc : c ∈ uptoL r n) : 0 ≤ waveI c w ∧ waveI c w < n := by
  subst e
  have h0 : ¬ waveI c r.wv < 0 := wave_nn (flat_sub hc)
  obtain ⟨k, h1, h2, h3⟩ := wave_spec (by omega : 0 ≤ waveI c r.wv)
  obtain ⟨j, j1, j2, j3⟩ := mem_upto.1 hc
  have := wave_one hw h2 j2 h3 j3
  omega
/-- What a valid rollout that is active has behind it. -/
theorem VR.act {r : Rol} (h : VR r) (h0 : r.st = 0 ∨ r.st = 1) : 0 ≤ r.pos ∧ r.pos < r.wv.length ∧ (∀ x ∈ r.dn, x ∈ uptoL r (r.pos + 1)) ∧ (¬ ∀ x ∈ uptoL r (r.pos + 1), x ∈ r.dn) ∧ ∀ x ∈ uptoL r r.pos, x ∈ r.dn := by
  have hp := h.p0
  rcases h.pok with ⟨h1, _⟩ | ⟨_, h2, h3, h4⟩
  · omega
  · rcases h4 with ⟨_, h5⟩ | ⟨h5, _⟩ | ⟨h5, _⟩
    · exact ⟨hp, h2, h3, h5⟩
    · omega
    · omega
theorem VR.bck {r : Rol} (h : VR r) (h0 : r.st = 2) : 0 ≤ r.pos ∧ r.pos < r.wv.length ∧ (∀ x ∈ r.dn, x ∈ uptoL r (r.pos + 1)) ∧ ¬ ∀ x ∈ uptoL r (r.pos + 1), x ∈ r.dn := by
  have hp := h.p0
  rcases h.pok with ⟨h1, _⟩ | ⟨_, h2, h3, h4⟩
  · omega
  · rcases h4 with ⟨h5, _⟩ | ⟨_, h5⟩ | ⟨h5, _⟩
    · omega
    · exact ⟨hp, h2, h3, h5⟩
    · omega
theorem VR.not_full {r : Rol} (h : VR r) (h0 : r.st = 0) : subB (nth r.wv r.pos.toNat) r.dn = false := by
  obtain ⟨a, b, _, d, e⟩ := h.act (.inl h0)
  rw [← Bool.not_eq_true, subB_iff]
  intro hh
  exact d fun x hx => by
    rcases (nth_upto a b).1 hx with hx | hx
    · exact e x hx
    · exact hh x hx
theorem insL_in {n : Int} {l : List Int} (h : n ∈ l) : insL n l = l := by unfold insL; rw [if_pos (inB_iff.2 h)]
theorem rol_self {r : Rol} : ({ r with dn := r.dn } : Rol) = r := rfl
/-- A report that was seen is seen again. -/
theorem act_keep {r : Rol} (h : VR r) (h0 : r.st = 0) {p : Rep} (hn : p.no ≠ r.frm) (hg : ¬ (p.runs = false ∨ p.same = false ∨ p.slk < r.slk ∨ r.pos < waveI p.chip r.wv)) (hd : p.chip ∈ r.dn) : activeC r p = r := by
  unfold activeC
  rw [if_neg hn, if_neg hg, insL_in hd, h.not_full h0, if_neg (by decide)]
theorem turn_keep {r : Rol} (h : VR r) (h0 : r.st = 2) {p : Rep} (hd : p.chip ∈ r.dn) : turnedC r p = r := by
  unfold turnedC
  split
  · rfl
  · obtain ⟨_, _, _, d⟩ := h.bck h0
    rw [insL_in hd, if_neg (fun hh => d (subB_iff.1 hh))]
theorem mem_insL {n : Int} {l : List Int} : n ∈ insL n l := mem_ins.2 (.inl rfl)
/-- What a report of a chip in a known release makes of the same chips' waves. -/
theorem seeC_keep {r : Rol} {p : Rep} {q : Rol} (hk : ¬ (waveI p.chip r.wv < 0 ∨ (p.no ≠ r.frm ∧ p.no ≠ r.to))) (e1 : q.wv = r.wv) (e2 : q.frm = r.frm) (e3 : q.to = r.to) (ha : q.st = 0 → activeC q p = q) (hb : q.st = 2 → turnedC q p = q) : seeC q p = (q, 0) := by
  unfold seeC
  rw [e1, e2, e3, if_neg hk]
  split
  · rename_i h; rw [ha h]
  · split
    · rename_i h; rw [hb h]
    · rfl
theorem see_again {r : Rol} (h : VR r) {p : Rep} (he : (seeG r p).2 = 0) : seeG (seeG r p).1 p = seeG r p := by
  have hv := h.seeG he
  have hk := see_err.1 he
  have h2 : seeG r p = ((seeG r p).1, 0) := Prod.ext rfl he
  rw [see_comp hv.inc]
  conv => rhs; rw [h2]
  obtain ⟨q, hq⟩ : ∃ q, (seeG r p).1 = q := ⟨_, rfl⟩
  rw [hq] at hv ⊢
  rw [see_comp h.inc] at hq
  unfold seeC at hq
  rw [if_neg hk] at hq
  split at hq
  · rename_i h0
    simp only at hq
    unfold activeC at hq
    split at hq
    · rename_i hn
      split at hq
      · subst hq
        exact seeC_keep hk rfl rfl rfl (fun e => by simp at e) (fun e => by simp at e)
      · rename_i hd
        subst hq
        exact seeC_keep hk rfl rfl rfl (fun _ => by unfold activeC; rw [if_pos hn, if_neg hd]) (fun e => by omega)
    · rename_i hn
      split at hq
      · subst hq
        exact seeC_keep hk rfl rfl rfl (fun e => by simp at e) (fun e => by simp at e)
      · rename_i hg
        split at hq
        · split at hq
          · subst hq
            exact seeC_keep hk rfl rfl rfl (fun e => by simp at e) (fun e => by simp at e)
          · subst hq
            exact seeC_keep hk rfl rfl rfl (fun e => act_keep hv e hn (fun hh => hg (by
              rcases hh with hh | hh | hh | hh
              · exact .inl hh
              · exact .inr (.inl hh)
              · exact .inr (.inr (.inl hh))
              · exact .inr (.inr (.inr (by
                  have hh' : r.pos + 1 < waveI p.chip r.wv := hh
                  omega))))) mem_insL) (fun e => by
                have e' : r.st = 2 := e
                omega)
        · subst hq
          exact seeC_keep hk rfl rfl rfl (fun e => act_keep hv e hn hg mem_insL) (fun e => by
            have e' : r.st = 2 := e
            omega)
  · rename_i h0
    split at hq
    · rename_i h2'
      simp only at hq
      unfold turnedC at hq
      split at hq
      · rename_i hg
        subst hq
        exact seeC_keep hk rfl rfl rfl (fun e => by omega) (fun _ => by unfold turnedC; rw [if_pos hg])
      · rename_i hg
        split at hq
        · subst hq
          exact seeC_keep hk rfl rfl rfl (fun e => by simp at e) (fun e => by simp at e)
        · subst hq
          exact seeC_keep hk rfl rfl rfl (fun e => by
            have e' : r.st = 0 := e
            omega) (fun e => turn_keep hv e mem_insL)
    · rename_i h2'
      simp only at hq
      subst hq
      exact seeC_keep hk rfl rfl rfl (fun e => by omega) (fun e => by omega)
/-- A good report of a chip that may send one. -/
def actS (r : Rol) (d : List Int) : Rol :=
  if subB (nth r.wv r.pos.toNat) d = true then
    (if r.pos + 1 = r.wv.length then { r with dn := d, pos := r.pos + 1, st := 3 } else { r with dn := d, pos := r.pos + 1 })
  else { r with dn := d }
theorem see_good {r : Rol} (h : VR r) (h0 : r.st = 0) {p : Rep} (hc : p.chip ∈ uptoL r (r.pos + 1)) (hn : p.no = r.to) (h1 : p.runs = true) (h2 : p.same = true) (h3 : r.slk ≤ p.slk) : seeG r p = (actS r (insL p.chip r.dn), 0) := by
  have hne := h.ne
  have hw := wave_lt h.w.nd rfl hc
  rw [see_comp h.inc]
  unfold seeC activeC
  rw [if_neg (by omega), if_pos h0, if_neg (by omega), if_neg (by rw [h1, h2]; simp; omega)]
  rfl
theorem insL_comm {a b : Int} {l : List Int} (h : Inc l) : insL a (insL b l) = insL b (insL a l) :=
  inc_ext (inc_ins (inc_ins h)) (inc_ins (inc_ins h)) fun x => by
    rw [mem_ins, mem_ins, mem_ins, mem_ins]
    exact ⟨fun k => by rcases k with k | k | k; exact .inr (.inl k); exact .inl k; exact .inr (.inr k), fun k => by rcases k with k | k | k; exact .inr (.inl k); exact .inl k; exact .inr (.inr k)⟩
theorem good_i64 {r : Rol} (h : VR r) {c : Int} (hc : c ∈ readyG r) : I64 c := by
  have := h.w.chip c (flat_sub (mem_ready.1 hc).2.1)
  exact ⟨by omega, by omega⟩
/-- Two ready chips of an active rollout. -/
theorem ready_nth {r : Rol} (h : VR r) (h0 : r.st = 0) {c : Int} (hc : c ∈ readyG r) : c ∈ nth r.wv r.pos.toNat ∧ c ∉ r.dn := by
  obtain ⟨a, b, _, _, e⟩ := h.act (.inl h0)
  obtain ⟨_, k1, k2⟩ := mem_ready.1 hc
  rcases (nth_upto a b).1 k1 with hx | hx
  · exact (k2 (e c hx)).elim
  · exact ⟨hx, k2⟩
theorem actS_open {r : Rol} (h : VR r) (h0 : r.st = 0) {a b : Int} (ha : a ∈ readyG r) (hb : b ∈ readyG r) (hab : a ≠ b) : actS r (insL a r.dn) = { r with dn := insL a r.dn } := by
  unfold actS
  rw [if_neg (fun hh => by
    have := subB_iff.1 hh b (ready_nth h h0 hb).1
    rcases mem_ins.1 this with k | k
    · exact hab k.symm
    · exact (ready_nth h h0 hb).2 k)]
theorem see_order1 {r : Rol} (h : VR r) (h0 : r.st = 0) {a b : Int} (ha : a ∈ readyG r) (hb : b ∈ readyG r) (hab : a ≠ b) : seeG (actS r (insL a r.dn)) (goodR r b) = (actS r (insL b (insL a r.dn)), 0) := by
  have hv : VR (actS r (insL a r.dn)) := by
    have e := see_good h h0 (p := goodR r a) (mem_ready.1 ha).2.1 rfl rfl rfl (Int.le_refl _)
    have := h.seeG (p := goodR r a) (by rw [e])
    rwa [e] at this
  rw [actS_open h h0 ha hb hab] at hv ⊢
  exact see_good hv h0 (p := goodR r b) (mem_ready.1 hb).2.1 rfl rfl rfl (Int.le_refl _)
theorem see_order {r : Rol} (h : VR r) (h0 : r.st = 0) {a b : Int} (ha : a ∈ readyG r) (hb : b ∈ readyG r) : seeG (seeG r (goodR r a)).1 (goodR r b) = seeG (seeG r (goodR r b)).1 (goodR r a) := by
  by_cases hab : a = b
  · rw [hab]
  · rw [see_good h h0 (p := goodR r a) (mem_ready.1 ha).2.1 rfl rfl rfl (Int.le_refl _), see_good h h0 (p := goodR r b) (mem_ready.1 hb).2.1 rfl rfl rfl (Int.le_refl _)]
    show seeG (actS r (insL a r.dn)) (goodR r b) = seeG (actS r (insL b r.dn)) (goodR r a)
    rw [see_order1 h h0 ha hb hab, see_order1 h h0 hb ha (Ne.symm hab), insL_comm h.inc]
theorem see_order2 {r : Rol} (h : VR r) (h0 : r.st = 0) {a : Int} (ha : a ∈ readyG r) : (seeG r (goodR r a)).2 = 0 := by
  rw [see_good h h0 (p := goodR r a) (mem_ready.1 ha).2.1 rfl rfl rfl (Int.le_refl _)]
/-- The second report meets a rollout that is valid. -/
theorem see_order3 {r : Rol} (h : VR r) (h0 : r.st = 0) {a b : Int} (ha : a ∈ readyG r) (hb : b ∈ readyG r) : (seeG (seeG r (goodR r a)).1 (goodR r b)).2 = 0 := by
  rw [see_err]
  have hne := h.ne
  rw [see_good h h0 (p := goodR r a) (mem_ready.1 ha).2.1 rfl rfl rfl (Int.le_refl _)]
  have e1 : (actS r (insL a r.dn)).wv = r.wv ∧ (actS r (insL a r.dn)).frm = r.frm ∧ (actS r (insL a r.dn)).to = r.to := by
    unfold actS
    split
    · split <;> exact ⟨rfl, rfl, rfl⟩
    · exact ⟨rfl, rfl, rfl⟩
  show ¬ (waveI b (actS r (insL a r.dn)).wv < 0 ∨ (r.to ≠ (actS r (insL a r.dn)).frm ∧ r.to ≠ (actS r (insL a r.dn)).to))
  rw [e1.1, e1.2.1, e1.2.2]
  have hw := wave_lt h.w.nd rfl (mem_ready.1 hb).2.1
  omega
end Go.Proofs.Ytinefghmmbggeaa
