/- Rollouts: what the laws' walks share. -/
import Derived.Test.YtinefghmmbggeaaRr
set_option linter.unusedVariables false
set_option linter.unusedSimpArgs false
namespace Go.Proofs.Ytinefghmmbggeaa
open Go Go.RowKit
theorem ifb_f {α : Type} {b : Bool} {x y : α} (h : b = false) : (if b = true then x else y) = y := by subst h; rfl
theorem same_refl {r : Rol} (h : ShortR r) : PCalls Try.prog 31 [rolD r, rolD r] (.d (.val (.bool true))) := by
  have := samep_c r r h h
  simpa [oD] using this
theorem ready_len {r : Rol} (h : VR r) : (readyG r).length ≤ 64 := by
  unfold readyG
  split
  · rw [← ready_eq h.ok]
    have h1 := List.length_filter_le (fun x => !inB x r.dn) (srtL (uptoL r (r.pos + 1)))
    have h2 := pigeon (n := 64) (l := srtL (uptoL r (r.pos + 1))) ((inc_srt _).imp fun h e => by omega) fun x hx => h.w.chip x (flat_sub (mem_srt.1 hx))
    omega
  · simp
theorem ready_v {r : Rol} (h : VR r) : PCalls Try.prog 19 [rolD r] (.d (intsD (readyG r))) := ready_c r h.short h.ok h.pos02
theorem validp_v {r : Rol} (h : VR r) : PCalls Try.prog 13 [rolD r] (.d (.val (.bool true))) := by
  have := validp_c r h.short
  rwa [vr_iff.2 h] at this
theorem valid_v {r : Rol} (h : VR r) : PCalls Try.prog 12 [rolD r] (.d (.val (.bool true))) := by
  have := valid_c r h.short h.ok
  rwa [vr_iff.2 h] at this
theorem see_v {r : Rol} (h : VR r) {p : Rep} (hp : I64 p.chip) {g : Rol × Int} (e : seeG r p = g) : PCalls Try.prog 21 [rolD r, repD p] (.d (gotD g)) := e ▸ see1_c r p (h.see hp)
def heldR (r : Rol) : Rol := { r with st := 1 }
theorem held_ok {r : Rol} (h : VR r) (h0 : r.st = 0) : VR (heldR r) := by
  refine ⟨h.f1, h.t1, h.ne, h.s0, h.w, h.p0, h.inc, ?_⟩
  rcases h.pok with ⟨h1, _⟩ | ⟨_, h2, h3, h4⟩
  · omega
  · refine .inr ⟨by simp [heldR], h2, h3, .inl ⟨.inr rfl, ?_⟩⟩
    rcases h4 with ⟨_, h5⟩ | ⟨h5, _⟩ | ⟨h5, _⟩
    · exact h5
    · omega
    · omega
/-- The bad report. -/
def badP (r : Rol) (s : Sp) : Rep := { reportR r s with no := r.to, chip := nth (allC r) (s.chip % (allC r).length).toNat }
theorem badP_mem {r : Rol} (h : VR r) {s : Sp} (hs : SpOk s) : (badP r s).chip ∈ r.wv.flatten := mem_allC.1 (nth_mem (allC_at h s.chip hs.c.1))
theorem badP_i64 {r : Rol} (h : VR r) {s : Sp} (hs : SpOk s) : I64 (badP r s).chip := by
  have := h.w.chip _ (badP_mem h hs)
  exact ⟨by omega, by omega⟩
theorem wave_nn {r : Rol} {c : Int} (h : c ∈ r.wv.flatten) : ¬ waveI c r.wv < 0 := fun h' => wave_neg.1 h' h
theorem badP_see {r : Rol} (h : VR r) {s : Sp} (hs : SpOk s) (h0 : r.st = 0) (hb : s.runs = false ∨ s.same = false ∨ s.slk % 12 < r.slk) : seeG r (badP r s) = (heldR r, 0) := by
  have h1 := wave_nn (badP_mem h hs)
  have h2 : (badP r s).no = r.to := rfl
  have hne := h.ne
  unfold seeG
  rw [if_neg (by rw [h2]; rintro (h | ⟨_, h⟩); exact h1 h; exact h rfl), if_pos h0]
  unfold activeG
  rw [if_neg (by rw [h2]; omega), if_pos (by
    rcases hb with h | h | h
    · exact .inl h
    · exact .inr (.inl h)
    · exact .inr (.inr (.inl h)))]
  rfl
theorem held_see {r : Rol} {p : Rep} (hk : ¬ (waveI p.chip r.wv < 0 ∨ (p.no ≠ r.frm ∧ p.no ≠ r.to))) : seeG (heldR r) p = (heldR r, 0) := by
  have hk' : ¬ (waveI p.chip (heldR r).wv < 0 ∨ (p.no ≠ (heldR r).frm ∧ p.no ≠ (heldR r).to)) := hk
  have h1 : ¬ (heldR r).st = 0 := by show ¬ (1 : Int) = 0; omega
  have h2 : ¬ (heldR r).st = 2 := by show ¬ (1 : Int) = 2; omega
  unfold seeG
  rw [if_neg hk', if_neg h1, if_neg h2]
theorem see_bad {r : Rol} {p : Rep} (hk : waveI p.chip r.wv < 0 ∨ (p.no ≠ r.frm ∧ p.no ≠ r.to)) : seeG r p = (noRol, 510) := by
  unfold seeG; rw [if_pos hk]
theorem inB_allC {r : Rol} {c : Int} : inB c (allC r) = decide (¬ waveI c r.wv < 0) := by
  rw [Bool.eq_iff_iff, inB_iff, mem_allC, decide_eq_true_eq, wave_neg, Decidable.not_not]
theorem held_resume {r : Rol} (h0 : r.st = 0) : resumeG (heldR r) = (r, 0) := by
  have h1 : (heldR r).st = 1 := rfl
  unfold resumeG
  rw [if_pos h1]
  cases r; simp [heldR] at *; exact h0.symm
theorem held_ready {r : Rol} : readyG (heldR r) = [] := by simp [readyG, heldR]
end Go.Proofs.Ytinefghmmbggeaa
