/- The law RolloutBack. -/
import Derived.Test.YtinefghmmbggeaaRw
set_option linter.unusedVariables false
set_option linter.unusedSimpArgs false
namespace Go.Proofs.Ytinefghmmbggeaa
open Go Go.RowKit
theorem ord_nodup (b : List Int) : ∀ k, (ordL b k).Nodup
  | 0 => List.nodup_nil
  | k + 1 => by
    have ih := ord_nodup b k
    have hk : (k : Int) ∉ ordL b k := fun h => by have := (mem_ord.1 h).2; omega
    have e : (ordL b k).take (atI b k).toNat ++ (ordL b k).drop (atI b k).toNat = ordL b k := List.take_append_drop _ _
    have hp : List.Perm ((ordL b k).take (atI b k).toNat ++ [(k : Int)] ++ (ordL b k).drop (atI b k).toNat) ((k : Int) :: ordL b k) := by
      rw [List.append_assoc]
      conv => rhs; rw [← e]
      exact List.perm_middle
    unfold ordL
    exact hp.nodup_iff.2 (List.nodup_cons.2 ⟨hk, ih⟩)
theorem nth_inj {α : Type} [Inhabited α] {l : List α} (h : l.Nodup) {i j : Nat} (hi : i < l.length) (hj : j < l.length) (e : nth l i = nth l j) : i = j := by
  rw [nth_eq hi, nth_eq hj] at e
  have hp := List.pairwise_iff_getElem.1 h
  rcases Nat.lt_trichotomy i j with k | k | k
  · exact (hp i j hi hj k e).elim
  · exact k
  · exact (hp j i hj hi k e.symm).elim
theorem nth_take {α : Type} [Inhabited α] {l : List α} (h : l.Nodup) {k : Nat} (hk : k < l.length) : nth l k ∉ l.take k := fun hm => by
  obtain ⟨j, hj, e⟩ := List.mem_take_iff_getElem.1 hm
  have hj1 : j < l.length := by omega
  have := nth_inj h hk hj1 (by rw [nth_eq hj1]; exact e.symm)
  omega
theorem filter_split {l : List Int} (p : Int → Bool) : (l.filter p).length + (l.filter fun x => !p x).length = l.length := by
  induction l with
  | nil => rfl
  | cons a l ih =>
    rw [List.filter_cons, List.filter_cons]
    cases p a <;> simp <;> omega
def stopP (f c : Int) : Rep := ⟨c, f, 0, false, false⟩
def nextP (f c : Int) : Rep := ⟨c, f, 0, false, true⟩
structure BackI (f : Int) (T l : List Int) (q : Rol) (k : Nat) : Prop where
  v : VR q
  fr : q.frm = f
  t : srtL (uptoL q (q.pos + 1)) = T
  st : (k < T.length ∧ q.st = 2) ∨ (k = T.length ∧ q.st = 4)
  d : q.dn.length = k
  m : ∀ x, x ∈ q.dn ↔ ∃ j ∈ l.take k, x = nth T j.toNat
/-- An order of the numbers below n. -/
structure OrdOk (l : List Int) (n : Nat) : Prop where
  nd : l.Nodup
  len : l.length = n
  mem : ∀ j ∈ l, 0 ≤ j ∧ j < n
theorem ord_ok (b : List Int) (n : Nat) : OrdOk (ordL b n) n := ⟨ord_nodup b n, ord_len b n, fun j hj => mem_ord.1 hj⟩
theorem BackI.sub {f : Int} {T l : List Int} {q : Rol} {k : Nat} (h : BackI f T l q k) (hl : OrdOk l T.length) : ∀ x ∈ q.dn, x ∈ T := fun x hx => by
  obtain ⟨j, hj, rfl⟩ := (h.m x).1 hx
  have := hl.mem j (List.mem_of_mem_take hj)
  exact nth_mem (by omega)
theorem BackI.inc {f : Int} {T l : List Int} {q : Rol} {k : Nat} (h : BackI f T l q k) : Inc T := h.t ▸ inc_srt _
theorem BackI.fin {f : Int} {T l : List Int} {q : Rol} {k : Nat} (h : BackI f T l q k) (hl : OrdOk l T.length) (hk : T.length ≤ k) : q.dn = T :=
  sub_eq h.v.inc h.inc (h.sub hl) (by rw [h.d]; exact hk)
/-- The chips that are left. -/
theorem BackI.left {f : Int} {T l : List Int} {q : Rol} {k : Nat} (h : BackI f T l q k) (hl : OrdOk l T.length) : (readyG q).length + k = T.length := by
  rcases h.st with ⟨hk, h2⟩ | ⟨hk, h4⟩
  · have e : readyG q = T.filter (fun x => !inB x q.dn) := by
      unfold readyG
      rw [if_pos (.inr h2), ← ready_eq h.v.ok, h.t]
    have e2 : T.filter (fun x => inB x q.dn) = q.dn := inc_ext (h.inc.filter _) h.v.inc fun x => by
      rw [List.mem_filter, inB_iff]
      exact ⟨fun k => k.2, fun k => ⟨h.sub hl x k, k⟩⟩
    have := filter_split (l := T) (fun x => inB x q.dn)
    rw [e2, ← e, h.d] at this
    omega
  · have : readyG q = [] := by unfold readyG; rw [if_neg (by omega)]
    rw [this, hk]; simp
theorem BackI.step {f : Int} {T l : List Int} {q : Rol} {k : Nat} (h : BackI f T l q k) (hl : OrdOk l T.length) (hk : k < T.length) {c : Int} (hc : nth T (nth l k).toNat = c) :
    I64 c ∧ seeG q (stopP f c) = (q, 0) ∧ ∃ q', seeG q (nextP f c) = (q', 0) ∧ BackI f T l q' (k + 1) ∧ inB c (readyG q') = false := by
  have h2 : q.st = 2 := by
    rcases h.st with ⟨_, h2⟩ | ⟨h1, _⟩
    · exact h2
    · omega
  have hkl : k < l.length := by rw [hl.len]; exact hk
  have hjm := hl.mem _ (nth_mem hkl)
  have hcT : c ∈ T := hc ▸ nth_mem (by omega)
  have hcu : c ∈ uptoL q (q.pos + 1) := by rw [← h.t] at hcT; exact mem_srt.1 hcT
  have hw := wave_lt h.v.w.nd rfl hcu
  have hcd : c ∉ q.dn := fun hd => by
    obtain ⟨j, hj, e⟩ := (h.m c).1 hd
    have hj2 := hl.mem j (List.mem_of_mem_take hj)
    have := nth_inj (inc_nodup h.inc) (by omega : (nth l k).toNat < T.length) (by omega : j.toNat < T.length) (hc.trans e)
    have e2 : j = nth l k := by omega
    exact nth_take hl.nd hkl (e2 ▸ hj)
  have hb := h.v.w.chip c (flat_sub hcu)
  have hfr := h.fr
  have hgo : ∀ p : Rep, p.chip = c → p.no = f → seeG q p = (turnedC q p, 0) := fun p h1 h3 => by
    rw [see_comp h.v.inc]
    unfold seeC
    rw [h1, h3, if_neg (by omega), if_neg (by omega), if_pos h2]
  refine ⟨⟨by omega, by omega⟩, ?_, _, hgo (nextP f c) rfl rfl, ?_⟩
  · rw [hgo (stopP f c) rfl rfl]
    unfold turnedC
    rw [if_pos (.inr (.inl rfl))]
  have ht : turnedC q (nextP f c) = if subB (uptoL q (q.pos + 1)) (insL c q.dn) = true then { q with dn := insL c q.dn, st := 4 } else { q with dn := insL c q.dn } := by
    unfold turnedC
    rw [if_neg (by
      show ¬ (f ≠ q.frm ∨ true = false ∨ q.pos < waveI c q.wv)
      simp; omega)]
    rfl
  have hv' : VR (turnedC q (nextP f c)) := by
    have e := hgo (nextP f c) rfl rfl
    have := h.v.seeG (p := nextP f c) (by rw [e])
    rwa [e] at this
  have hfull : subB (uptoL q (q.pos + 1)) (insL c q.dn) = true ↔ k + 1 = T.length := by
    have hlen := ins_len hcd
    rw [h.d] at hlen
    have hsubT : ∀ x ∈ insL c q.dn, x ∈ T := fun x hx => by
      rcases mem_ins.1 hx with rfl | hx
      · exact hcT
      · exact h.sub hl x hx
    constructor
    · intro hs
      have hs := subB_iff.1 hs
      have e := sub_eq h.inc (inc_ins h.v.inc) (fun x hx => hs x (by rw [← h.t] at hx; exact mem_srt.1 hx)) (by omega)
      rw [← hlen, ← e]
    · intro e
      have e2 := sub_eq (inc_ins h.v.inc) h.inc hsubT (by omega)
      exact subB_iff.2 fun x hx => by rw [e2, ← h.t]; exact mem_srt.2 hx
  have hdn : (turnedC q (nextP f c)).dn = insL c q.dn := by rw [ht]; split <;> rfl
  have hI : BackI f T l (turnedC q (nextP f c)) (k + 1) := by
    refine ⟨hv', ?_, ?_, ?_, ?_, ?_⟩
    · rw [ht]; split <;> exact h.fr
    · rw [ht]; split <;> exact h.t
    · rw [ht]
      by_cases hf : k + 1 = T.length
      · rw [if_pos (hfull.2 hf)]; exact .inr ⟨hf, rfl⟩
      · rw [if_neg (fun hh => hf (hfull.1 hh))]; exact .inl ⟨by omega, h2⟩
    · rw [hdn, ins_len hcd, h.d]
    · intro x
      rw [hdn, mem_ins, h.m, take_nth hkl]
      constructor
      · rintro (rfl | ⟨j, hj, e⟩)
        · exact ⟨nth l k, by simp, hc.symm⟩
        · exact ⟨j, by simp [hj], e⟩
      · rintro ⟨j, hj, e⟩
        rw [List.mem_append, List.mem_singleton] at hj
        rcases hj with hj | rfl
        · exact .inr ⟨j, hj, e⟩
        · exact .inl (e.trans hc)
  refine ⟨hI, ?_⟩
  rw [← Bool.not_eq_true, inB_iff]
  intro hr
  have := (mem_ready.1 hr).2.2
  rw [hdn] at this
  exact this mem_insL
def backR (r : Rol) : Rol := { r with st := 2, dn := [], pos := min r.pos (r.wv.length - 1) }
theorem BackI.start {r : Rol} (h : VR r) (l : List Int) : BackI r.frm (srtL (uptoL r (min r.pos (r.wv.length - 1) + 1))) l (backR r) 0 := by
  have h0 := h.p0
  have h1 := h.w.one
  refine ⟨h.back, rfl, rfl, .inl ⟨?_, rfl⟩, rfl, fun x => ⟨fun hx => (by cases hx), fun ⟨j, hj, _⟩ => (by simp at hj)⟩⟩
  obtain ⟨x, hx⟩ := upto_ne (r := r) h.w (n := min r.pos (r.wv.length - 1) + 1) (by omega)
  exact List.length_pos_of_mem (mem_srt.2 hx)
theorem back_ready {r : Rol} (h : VR r) : readyG (backR r) = srtL (uptoL r (min r.pos (r.wv.length - 1) + 1)) := by
  have hv : VR (backR r) := h.back
  unfold readyG
  rw [if_pos (.inr rfl), ← ready_eq hv.ok]
  exact List.filter_eq_self.2 fun x _ => rfl
theorem back_yes {r : Rol} (h : ¬ (r.st = 2 ∨ r.st = 4)) : backG r = (backR r, 0) := by unfold backG; rw [if_neg h]; rfl
theorem back_no {r : Rol} (h : r.st = 2 ∨ r.st = 4) : backG r = (noRol, 510) := by unfold backG; rw [if_pos h]
theorem touched_len {r : Rol} (h : VR r) (n : Int) : (srtL (uptoL r n)).length ≤ 64 :=
  pigeon (inc_nodup (inc_srt _)) fun x hx => h.w.chip x (flat_sub (mem_srt.1 hx))
end Go.Proofs.Ytinefghmmbggeaa
