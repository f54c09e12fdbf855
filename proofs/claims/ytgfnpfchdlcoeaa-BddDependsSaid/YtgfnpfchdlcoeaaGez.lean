/- Of no program: the values of a tree for all assignments, in their order. -/
import Derived.Test.YtgfnpfchdlcoeaaGb
import Derived.Test.YtgfnpfchdlcoeaaQ
set_option linter.unusedVariables false
set_option linter.unusedSimpArgs false
namespace Go.Proofs.Ytgfnpfchdlcoeaa
open Go Go.RowKit
/-- Assignment number i of n variables; the first variable is the highest bit. -/
def asn (n i : Nat) : Nat → Bool := fun v => decide (v < n) && i.testBit (n - 1 - v)
theorem atB_asg {V j : Nat} (hj : j < 2 ^ 62) (hV : V ≤ 60) : atB (asgL V (j : Int)) = asn V j := by
  funext v
  unfold atB asn
  have hl : (asgL V (j : Int)).length = V := by simp [asgL]
  rw [hl]
  by_cases h : v < V
  · rw [decide_eq_true h, Bool.true_and, Bool.true_and]
    unfold asgL
    rw [zdj h, show ((V : Int) - 1 - v) = ((V - 1 - v : Nat) : Int) by omega, zpu hj (by omega)]
  · rw [decide_eq_false h]; rfl
theorem asn_lo {n v j : Nat} (hj : j < 2 ^ (n - 1 - v)) : asn n j v = false := by
  unfold asn
  rw [Nat.testBit_lt_two_pow hj, Bool.and_false]
theorem asn_hi {n v j : Nat} (hv : v < n) (hj : j < 2 ^ (n - 1 - v)) : asn n (2 ^ (n - 1 - v) + j) v = true := by
  unfold asn
  rw [Nat.testBit_two_pow_add_eq, Nat.testBit_lt_two_pow hj, decide_eq_true hv]; rfl
theorem asn_up {n v j i : Nat} (hv : v < i) (hi : i < n) : asn n (2 ^ (n - 1 - v) + j) i = asn n j i := by
  unfold asn
  rw [Nat.testBit_two_pow_add_gt (by omega)]
theorem ev_up {n v j : Nat} {t : T} (h : t.Ok n (v + 1)) : t.eval (asn n (2 ^ (n - 1 - v) + j)) = t.eval (asn n j) :=
  h.eval_eq fun i h1 h2 => asn_up h1 h2
theorem ev_lo {n v j : Nat} {l h : T} (hj : j < 2 ^ (n - 1 - v)) : (T.node v l h).eval (asn n j) = l.eval (asn n j) := by
  rw [T.eval, asn_lo hj]; rfl
theorem ev_hi {n k v j : Nat} {l h : T} (hok : (T.node v l h).Ok n k) (hj : j < 2 ^ (n - 1 - v)) : (T.node v l h).eval (asn n (2 ^ (n - 1 - v) + j)) = h.eval (asn n j) := by
  rw [T.eval, asn_hi hok.2.1 hj, if_pos rfl, ev_up hok.2.2.2.2]
/-- Every assignment has a number. -/
theorem zvl (a : Nat → Bool) : ∀ n, ∃ i, i < 2 ^ n ∧ ∀ v, v < n → asn n i v = a v
  | 0 => ⟨0, by simp, fun v h => by omega⟩
  | n + 1 => by
    obtain ⟨i, hi, h⟩ := zvl a n
    refine ⟨2 * i + (a n).toNat, ?_, fun v hv => ?_⟩
    · rw [Nat.pow_succ]; cases a n <;> simp <;> omega
    · unfold asn
      rw [decide_eq_true hv, Bool.true_and]
      by_cases he : v = n
      · subst he
        rw [show v + 1 - 1 - v = 0 by omega, Nat.testBit_zero]
        cases a v <;> simp <;> omega
      · have := h v (by omega)
        unfold asn at this
        rw [decide_eq_true (by omega), Bool.true_and] at this
        rw [show n + 1 - 1 - v = (n - 1 - v) + 1 by omega, Nat.testBit_succ, ← this]
        congr 1
        cases a n <;> simp <;> omega
theorem ev_all {n k j : Nat} {t s : T} (ht : t.Ok n k) (hs : s.Ok n j) (h : ∀ i, i < 2 ^ n → t.eval (asn n i) = s.eval (asn n i)) : t = s :=
  ht.eq hs fun a => by
    obtain ⟨i, hi, he⟩ := zvl a n
    rw [ht.eval_eq (b := asn n i) fun v _ hv => (he v hv).symm, hs.eval_eq (b := asn n i) fun v _ hv => (he v hv).symm]
    exact h i hi
/-! ### Counting -/
def CT (n : Nat) (t : T) (N : Nat) : Nat := ((List.range N).map fun i => t.eval (asn n i)).count true
theorem CT_add (n : Nat) (t : T) (m : Nat) : CT n t (2 ^ (m + 1)) = CT n t (2 ^ m) + ((List.range (2 ^ m)).map fun j => t.eval (asn n (2 ^ m + j))).count true := by
  unfold CT
  rw [Nat.pow_succ, Nat.mul_two, List.range_add, List.map_append, List.count_append, List.map_map]
  rfl
theorem CT_up {n k : Nat} {t : T} (h : t.Ok n (k + 1)) (hk : k < n) : CT n t (2 ^ (n - k)) = CT n t (2 ^ (n - (k + 1))) * 2 := by
  rw [show n - k = (n - (k + 1)) + 1 by omega, CT_add, Nat.mul_two]
  congr 2
  refine List.map_congr_left fun j _ => ?_
  have := ev_up (j := j) h
  rw [show n - 1 - k = n - (k + 1) by omega] at this
  exact this
theorem CT_ups {n k : Nat} {t : T} : ∀ d, t.Ok n (k + d) → k + d ≤ n → CT n t (2 ^ (n - k)) = CT n t (2 ^ (n - (k + d))) * 2 ^ d
  | 0, _, _ => by simp
  | d + 1, h, hd => by
    rw [CT_ups d (h.mono (by omega)) (by omega), CT_up (k := k + d) h (by omega), Nat.pow_succ, Nat.mul_assoc, Nat.mul_comm 2]
    rfl
theorem CT_node {n k v : Nat} {l h : T} (hok : (T.node v l h).Ok n k) : CT n (.node v l h) (2 ^ (n - v)) = CT n l (2 ^ (n - (v + 1))) + CT n h (2 ^ (n - (v + 1))) := by
  have hv := hok.2.1
  have e : n - 1 - v = n - (v + 1) := by omega
  rw [show n - v = (n - (v + 1)) + 1 by omega, CT_add]
  unfold CT
  congr 2
  · refine List.map_congr_left fun j hj => ?_
    exact ev_lo (by rw [e]; exact List.mem_range.1 hj)
  · refine List.map_congr_left fun j hj => ?_
    have := ev_hi hok (j := j) (by rw [e]; exact List.mem_range.1 hj)
    rw [e] at this
    exact this
theorem CT_leaf (n : Nat) (b : Bool) (N : Nat) : CT n (.leaf b) N = if b then N else 0 := by
  unfold CT
  have : ((List.range N).map fun i => (T.leaf b).eval (asn n i)) = List.replicate N b := by
    refine List.ext_getElem (by simp) fun i h1 h2 => ?_
    simp [T.eval]
  rw [this, List.count_replicate]
  cases b <;> rfl
theorem cnt_CT {n : Nat} : ∀ {t : T} {k : Nat}, t.Ok n k → k ≤ n → cntT n t k = CT n t (2 ^ (n - k))
  | .leaf b, k, _, _ => by rw [CT_leaf]; rfl
  | .node v l h, k, hok, hk => by
    have h1 := hok.1
    have h2 := hok.2.1
    have hv : (T.node v l h).Ok n (k + (v - k)) := ⟨by omega, hok.2⟩
    rw [CT_ups (v - k) hv (by omega), show k + (v - k) = v by omega, CT_node hok, cntT, cnt_CT hok.2.2.2.1 (by omega), cnt_CT hok.2.2.2.2 (by omega)]
theorem zsl {n : Nat} : ∀ {t : T} {k : Nat}, t.Ok n k → k ≤ n → cntT (n + 1) t k = 2 * cntT n t k
  | .leaf b, k, _, hk => by
    unfold cntT
    cases b
    · rfl
    · simp only [if_pos]
      rw [show n + 1 - k = (n - k) + 1 by omega, Nat.pow_succ]; omega
  | .node v l h, k, hok, hk => by
    have h2 := hok.2.1
    unfold cntT
    rw [zsl hok.2.2.2.1 (by omega), zsl hok.2.2.2.2 (by omega), ← Nat.mul_add, Nat.mul_assoc]
theorem count_not (N : Nat) (f g : Nat → Bool) (h : ∀ i, i < N → g i = !f i) : ((List.range N).map f).count true + ((List.range N).map g).count true = N := by
  induction N with
  | zero => rfl
  | succ N ih =>
    rw [zkj, zkj, List.count_append, List.count_append]
    have := ih fun i hi => h i (by omega)
    rw [h N (by omega)]
    cases f N <;> simp <;> omega
/-! ### The first path to true -/
def anyP (n : Nat) : T → Nat
  | .leaf _ => 0
  | .node v l h => if l = .leaf false then 2 ^ (n - 1 - v) + anyP n h else anyP n l
theorem zkl {n : Nat} : ∀ {t : T} {k : Nat}, t.Ok n k → k ≤ n → anyP n t < 2 ^ (n - k)
  | .leaf b, k, _, _ => Nat.two_pow_pos _
  | .node v l h, k, hok, hk => by
    have h1 := hok.1
    have h2 := hok.2.1
    have hl := zkl hok.2.2.2.1 (by omega)
    have hh := zkl hok.2.2.2.2 (by omega)
    have e : n - 1 - v = n - (v + 1) := by omega
    have e2 : 2 ^ (n - v) = 2 ^ (n - (v + 1)) + 2 ^ (n - (v + 1)) := by rw [show n - v = (n - (v + 1)) + 1 by omega, Nat.pow_succ]; omega
    have e3 : 2 ^ (n - v) ≤ 2 ^ (n - k) := Nat.pow_le_pow_right (by decide) (by omega)
    unfold anyP
    rw [e]
    split <;> omega
theorem zpy {n : Nat} : ∀ {t : T} {k : Nat}, t.Ok n k → k ≤ n → t ≠ .leaf false → t.eval (asn n (anyP n t)) = true
  | .leaf b, k, _, _, h => by cases b; exact absurd rfl h; rfl
  | .node v l h, k, hok, hk, _ => by
    have h2 := hok.2.1
    have e : n - 1 - v = n - (v + 1) := by omega
    unfold anyP
    split
    · rename_i hl
      rw [ev_hi hok (by rw [e]; exact zkl hok.2.2.2.2 (by omega))]
      exact zpy hok.2.2.2.2 (by omega) fun hh => hok.2.2.1 (by rw [hl, hh])
    · rename_i hl
      rw [ev_lo (by rw [e]; exact zkl hok.2.2.2.1 (by omega))]
      exact zpy hok.2.2.2.1 (by omega) hl
theorem zsn {n : Nat} : ∀ {t : T} {k : Nat}, t.Ok n k → k ≤ n → ∀ i, i < anyP n t → t.eval (asn n i) = false
  | .leaf b, k, _, _, i, h => by simp [anyP] at h
  | .node v l h, k, hok, hk, i, hi => by
    have h2 := hok.2.1
    have e : n - 1 - v = n - (v + 1) := by omega
    have hlt := zkl hok.2.2.2.1 (by omega)
    have hht := zkl hok.2.2.2.2 (by omega)
    unfold anyP at hi
    split at hi
    · rename_i hl
      by_cases hc : i < 2 ^ (n - 1 - v)
      · rw [ev_lo hc, hl]; rfl
      · obtain ⟨j, rfl⟩ : ∃ j, i = 2 ^ (n - 1 - v) + j := ⟨i - 2 ^ (n - 1 - v), by omega⟩
        rw [ev_hi hok (by rw [e] at hi ⊢; omega)]
        exact zsn hok.2.2.2.2 (by omega) j (by omega)
    · rw [ev_lo (by rw [e]; omega)]
      exact zsn hok.2.2.2.1 (by omega) i hi
theorem zot (us : List T) : ∀ (t : T) (r : List Bool), (anyT us t r).length = r.length
  | .leaf _, r => rfl
  | .node v l h, r => by
    unfold anyT anyT.setAt
    split
    · rw [zot us h, List.length_set]
    · rw [zot us l, List.length_set]
theorem zso {n V : Nat} {us : List T} (hr : RowOk V us) : ∀ {t : T} {k : Nat}, t.Ok n k → t ∈ full us → ∀ (r : List Bool), r.length = n → (∀ j, k ≤ j → j < n → nth r j = false) → ∀ j, j < n → nth (anyT us t r) j = (nth r j || (anyP n t).testBit (n - 1 - j))
  | .leaf b, k, _, _, r, _, _, j, _ => by simp [anyT, anyP]
  | .node v l h, k, hok, hin, r, hrl, hr0, j, hj => by
    have h1 := hok.1
    have h2 := hok.2.1
    have hc := hr.chf hin
    have e : n - 1 - v = n - (v + 1) := by omega
    have hht := zkl hok.2.2.2.2 (by omega)
    have hset : ∀ b j, j < n → nth (r.set v b) j = if j = v then b else nth r j := fun b j hj => by
      by_cases he : j = v
      · subst he; rw [if_pos rfl, zm0 (by omega)]
      · rw [if_neg he, zkq (Ne.symm he)]
    have hz : ∀ b j, v + 1 ≤ j → j < n → nth (r.set v b) j = false := fun b j h3 h4 => by
      rw [hset b j h4, if_neg (by omega)]; exact hr0 j (by omega) h4
    unfold anyT anyT.setAt anyP
    by_cases hl : l = .leaf false
    · rw [if_pos (by rw [hl]; exact zjt us), if_pos hl, zso hr hok.2.2.2.2 hc.2 _ (by simpa using hrl) (hz true) j hj, hset true j hj]
      by_cases he : j = v
      · subst he
        rw [if_pos rfl, Nat.testBit_two_pow_add_eq, Nat.testBit_lt_two_pow (by rw [e]; exact hht)]; simp
      · rw [if_neg he]
        congr 1
        by_cases hjv : v < j
        · rw [Nat.testBit_two_pow_add_gt (by omega)]
        · have e3 : 2 ^ (n - 1 - v + 1) ≤ 2 ^ (n - 1 - j) := Nat.pow_le_pow_right (by decide) (by omega)
          rw [Nat.pow_succ] at e3
          rw [e] at e3 ⊢
          rw [Nat.testBit_lt_two_pow (by omega), Nat.testBit_lt_two_pow (by omega)]
    · have hne : ¬ num us l = 0 := fun hn => hl (zey hc.1 (zju us) (by rw [hn, zjt]))
      rw [if_neg hne, if_neg hl, zso hr hok.2.2.2.1 hc.1 _ (by simpa using hrl) (hz false) j hj, hset false j hj]
      by_cases he : j = v
      · subst he; rw [if_pos rfl, hr0 j h1 hj]
      · rw [if_neg he]
theorem any_asg {n V : Nat} {us : List T} (hr : RowOk V us) {t : T} (hok : t.Ok n 0) (hin : t ∈ full us) (hn : n ≤ 60) : anyT us t (List.replicate n false) = asgL n (anyP n t : Nat) := by
  have hP := zkl hok (Nat.zero_le _)
  have hP2 : 2 ^ (n - 0) ≤ 2 ^ 60 := Nat.pow_le_pow_right (by decide) (by omega)
  have hP3 : (2 : Nat) ^ 60 ≤ 2 ^ 62 := by decide
  have hrep : ∀ j, nth (List.replicate n false) j = false := fun j => by unfold nth; simp [List.getD_eq_getElem?_getD, List.getElem?_replicate]; split <;> rfl
  have hl : (asgL n (anyP n t : Nat)).length = n := by simp [asgL]
  refine ext_nth (by rw [zot, hl]; simp) fun j hj => ?_
  rw [zot, List.length_replicate] at hj
  rw [zso hr hok hin _ (by simp) (fun j _ _ => hrep j) j hj, hrep, Bool.false_or]
  unfold asgL
  rw [zdj hj, show ((n : Int) - 1 - j) = ((n - 1 - j : Nat) : Int) by omega, zpu (by omega) (by omega)]
/-! ### What a value hangs on -/
theorem ev_vs {a b : Nat → Bool} : ∀ {t : T}, (∀ v ∈ t.vs, a v = b v) → t.eval a = t.eval b
  | .leaf _, _ => rfl
  | .node v l h, hv => by
    unfold T.eval
    rw [hv v (by simp [T.vs]), ev_vs (t := l) fun u hu => hv u (by simp [T.vs, hu]), ev_vs (t := h) fun u hu => hv u (by simp [T.vs, hu])]
theorem vs_dep {n : Nat} : ∀ {t : T} {k v : Nat}, t.Ok n k → v ∈ t.vs → ∃ a, t.eval (upd a v true) ≠ t.eval (upd a v false)
  | .leaf _, _, _, _, h => by cases h
  | .node u l h, k, v, hok, hv => by
    simp only [T.vs, List.mem_cons, List.mem_append] at hv
    rcases hv with rfl | hv | hv
    · refine Classical.byContradiction fun hc => hok.2.2.1 (hok.2.2.2.1.eq hok.2.2.2.2 fun a => ?_)
      have : ∀ a, (T.node v l h).eval (upd a v true) = (T.node v l h).eval (upd a v false) := fun a => Classical.byContradiction fun h => hc ⟨a, h⟩
      rw [← hok.lo a, ← hok.hi a, this]
    · obtain ⟨a, ha⟩ := vs_dep hok.2.2.2.1 hv
      have hlt := (zvb hok.2.2.2.1 v hv).1
      refine ⟨upd a u false, ?_⟩
      have e : ∀ b, (T.node u l h).eval (upd (upd a u false) v b) = l.eval (upd a v b) := fun b => by
        show (if upd (upd a u false) v b u then _ else _) = _
        rw [upd_ne (by omega), zol, if_neg (by simp)]
        exact hok.2.2.2.1.eval_eq fun i h1 h2 => by unfold upd; split <;> (try split) <;> first | rfl | omega
      rw [e, e]; exact ha
    · obtain ⟨a, ha⟩ := vs_dep hok.2.2.2.2 hv
      have hlt := (zvb hok.2.2.2.2 v hv).1
      refine ⟨upd a u true, ?_⟩
      have e : ∀ b, (T.node u l h).eval (upd (upd a u true) v b) = h.eval (upd a v b) := fun b => by
        show (if upd (upd a u true) v b u then _ else _) = _
        rw [upd_ne (by omega), zol, if_pos rfl]
        exact hok.2.2.2.2.eval_eq fun i h1 h2 => by unfold upd; split <;> (try split) <;> first | rfl | omega
      rw [e, e]; exact ha
theorem asn_flip {n i v : Nat} (hv : v < n) : asn n (i ^^^ 2 ^ (n - 1 - v)) = upd (asn n i) v (!asn n i v) := by
  funext u
  unfold upd asn
  by_cases h : u < n
  · rw [decide_eq_true h, decide_eq_true hv, Bool.true_and, Bool.true_and, Bool.true_and, Nat.testBit_xor, Nat.testBit_two_pow]
    by_cases he : u = v
    · subst he; rw [if_pos rfl]; simp
    · rw [if_neg he, decide_eq_false (by omega), Bool.xor_false]
  · rw [decide_eq_false h]
    split
    · omega
    · rfl
/-- A variable is in the support exactly if inverting it changes the value for some assignment. -/
theorem vs_iff {n v : Nat} {t : T} (hok : t.Ok n 0) (hv : v < n) : v ∈ t.vs ↔ ∃ i, i < 2 ^ n ∧ t.eval (asn n i) ≠ t.eval (asn n (i ^^^ 2 ^ (n - 1 - v))) := by
  constructor
  · intro h
    obtain ⟨a, ha⟩ := vs_dep hok h
    obtain ⟨i, hi, he⟩ := zvl a n
    refine ⟨i, hi, ?_⟩
    rw [asn_flip hv]
    have key : ∀ b, t.eval (upd a v b) = t.eval (upd (asn n i) v b) := fun b => hok.eval_eq fun u _ hu => by
      unfold upd; split
      · rfl
      · exact (he u hu).symm
    rw [key, key] at ha
    have self : t.eval (asn n i) = t.eval (upd (asn n i) v (asn n i v)) := by rw [upd_same]
    rw [self]
    cases asn n i v
    · exact fun h => ha h.symm
    · exact ha
  · rintro ⟨i, hi, h⟩
    refine Classical.byContradiction fun hn => h (ev_vs fun u hu => ?_)
    rw [asn_flip hv, upd_ne]
    rintro rfl
    exact hn hu
theorem xor_lt {n i v : Nat} (hi : i < 2 ^ n) (hv : v < n) : i ^^^ 2 ^ (n - 1 - v) < 2 ^ n :=
  Nat.xor_lt_two_pow hi (Nat.pow_lt_pow_right (by decide) (by omega))
theorem sup_range {n : Nat} {t : T} (hok : t.Ok n 0) (hn : n ≤ 1000) : supL t = ((List.range n).filter fun v => decide (v ∈ t.vs)).map fun (v : Nat) => (v : Int) := by
  unfold supL
  obtain ⟨d, hd⟩ : ∃ d, 1000 = n + d := ⟨1000 - n, by omega⟩
  rw [hd, List.range_add, List.filter_append]
  have : List.filter (fun v => decide (v ∈ t.vs)) (List.map (fun x => n + x) (List.range d)) = [] := by
    refine List.filter_eq_nil_iff.2 fun x hx => ?_
    obtain ⟨y, _, rfl⟩ := List.mem_map.1 hx
    intro h
    have := (zvb hok _ (of_decide_eq_true h)).2
    omega
  rw [this, List.append_nil]
end Go.Proofs.Ytgfnpfchdlcoeaa

/- The theorem of canonicity. -/
set_option linter.unusedVariables false
set_option linter.unusedSimpArgs false
namespace Go.Proofs.Ytgfnpfchdlcoeaa
open Go Go.RowKit
theorem zax (n : Net) (sh : Sh) : (zjz n sh).length = 2 + n.ins.length + n.gates.length := by simp [zjz]
theorem znc {n : Net} {sh : Sh} {k : Nat} (h : k < 2 + n.ins.length + n.gates.length) : nth (zjz n sh) k = rowT n sh k (2 ^ zcr n.ins.length sh) := zdj h
/-- A column is the values of the node's tree. -/
theorem zt5 {n : Net} {sh : Sh} (hsh : ShOk sh) {fs : List T} (hF : FsP (zcr n.ins.length sh) n.ins.length sh n.gates n.gates.length fs) (hg : GatesOk (2 + n.ins.length) n.gates) (hV : zcr n.ins.length sh ≤ 20) {k : Nat} (hk : k < 2 + n.ins.length + n.gates.length) {N : Nat} (hN : N ≤ 2 ^ zcr n.ins.length sh) :
    rowT n sh k N = (List.range N).map fun j => (nth fs k).eval (asn (zcr n.ins.length sh) j) := by
  have hp : 2 ^ zcr n.ins.length sh ≤ 2 ^ 20 := Nat.pow_le_pow_right (by decide) hV
  have hp2 : (2 : Nat) ^ 20 < 2 ^ 62 := by decide
  refine List.map_congr_left fun j hj => ?_
  rw [List.mem_range] at hj
  have hm := mean hsh hF hg (asgL (zcr n.ins.length sh) j) n.gates.length (Nat.le_refl _) k hk
  rw [List.take_length, atB_asg (by omega) (by omega)] at hm
  exact hm
theorem row_eq {n : Net} {sh : Sh} (hsh : ShOk sh) {fs : List T} (hF : FsP (zcr n.ins.length sh) n.ins.length sh n.gates n.gates.length fs) (hg : GatesOk (2 + n.ins.length) n.gates) (hV : zcr n.ins.length sh ≤ 20) {i k : Nat} (hi : i < 2 + n.ins.length + n.gates.length) (hk : k < 2 + n.ins.length + n.gates.length) :
    rowT n sh i (2 ^ zcr n.ins.length sh) = rowT n sh k (2 ^ zcr n.ins.length sh) ↔ nth fs i = nth fs k := by
  rw [zt5 hsh hF hg hV hi (Nat.le_refl _), zt5 hsh hF hg hV hk (Nat.le_refl _)]
  constructor
  · intro h
    have hl := hF.len
    refine ev_all (hF.ok _ (zdi (by omega))) (hF.ok _ (zdi (by omega))) fun j hj => ?_
    have h1 : nth ((List.range (2 ^ zcr n.ins.length sh)).map fun j => (nth fs i).eval (asn (zcr n.ins.length sh) j)) j = nth ((List.range (2 ^ zcr n.ins.length sh)).map fun j => (nth fs k).eval (asn (zcr n.ins.length sh) j)) j := by rw [h]
    rw [zdj hj, zdj hj] at h1
    exact h1
  · intro h; rw [h]
end Go.Proofs.Ytgfnpfchdlcoeaa

/- The theorem of witnesses. -/
set_option linter.unusedVariables false
set_option linter.unusedSimpArgs false
namespace Go.Proofs.Ytgfnpfchdlcoeaa
open Go Go.RowKit
theorem one_no {n : Net} {k : Nat} (h : k < 2 + n.ins.length + n.gates.length) : [(k : Int)].any (unkB (2 + n.ins.length + n.gates.length)) = false := by
  simp [unkB]; omega
/-- What is known of a diagram of one node. -/
structure One (V : Nat) (us : List T) (t : T) : Prop where
  row : RowOk V us
  len : us.length ≤ 3000
  ok : t.Ok V 0
  hin : t ∈ full us
theorem One.tree {V : Nat} {us : List T} {t : T} (h : One V us t) : zdz us (num us t : Nat) = t := zr0 h.hin
theorem One.ask {V W : Nat} {us : List T} {t : T} (h : One V us t) (hV : V ≤ W) (hW : W ≤ 60) : askB us (num us t : Nat) (W : Int) = true := by
  have hlt := zer h.hin
  unfold askB zhn
  rw [h.tree, decide_eq_true (by omega), decide_eq_true (by omega), decide_eq_true (by omega), decide_eq_true (by omega)]
  simp only [Bool.true_and, List.all_eq_true, decide_eq_true_eq]
  intro x hx
  obtain ⟨v, hv, rfl⟩ := (zvc (V := V) (by omega) h.ok).1 hx
  have := (zvb h.ok v hv).2
  omega
theorem one_of {n : Net} {sh : Sh} {k : Nat} (hk : k < 2 + n.ins.length + n.gates.length) {fs us : List T} {rs : List Nat} (h : Blt (zcr n.ins.length sh) n sh [(k : Int)] fs us rs) : One (zcr n.ins.length sh) us (nth fs k) ∧ rs = [num us (nth fs k)] := by
  have hl := h.F.len
  have hin := h.hin (nth fs k) (by simp [ze1])
  exact ⟨⟨h.row, h.len, h.F.ok _ (zdi (by omega)), hin⟩, by rw [h.rs]; simp [ze1]⟩
theorem One.none {V : Nat} {us : List T} {t : T} (h : One V us t) (hV : V ≤ 60) (hf : ∀ j, j < 2 ^ V → t.eval (asn V j) = false) : anyL us (num us t : Nat) V = [] ∧ anyE us (num us t : Nat) V = 4 := by
  have e : t = .leaf false := ev_all (n := V) h.ok (s := .leaf false) (j := 0) trivial hf
  have h0 : num us t = 0 := by rw [e]; exact zjt us
  unfold anyL anyE
  rw [h.ask (Nat.le_refl _) hV, h0]
  exact ⟨rfl, rfl⟩
theorem One.some {V : Nat} {us : List T} {t : T} (h : One V us t) (hV : V ≤ 60) {i : Nat} (hi : i < 2 ^ V) (hf : ∀ j, j < i → t.eval (asn V j) = false) (ht : t.eval (asn V i) = true) : anyL us (num us t : Nat) V = asgL V i ∧ anyE us (num us t : Nat) V = 0 := by
  have hne : t ≠ .leaf false := fun e => by rw [e] at ht; cases ht
  have h0 : num us t ≠ 0 := fun e => hne (zey h.hin (zju us) (by rw [e, zjt]))
  have hp : anyP V t = i := by
    have h1 := zpy h.ok (Nat.zero_le _) hne
    have h2 := zsn h.ok (Nat.zero_le _)
    rcases Nat.lt_trichotomy (anyP V t) i with hc | hc | hc
    · rw [hf _ hc] at h1; cases h1
    · exact hc
    · rw [h2 i hc] at ht; cases ht
  unfold anyL anyE
  rw [h.ask (Nat.le_refl _) hV, h.tree, decide_eq_true (by omega)]
  refine ⟨?_, ?_⟩
  · show anyT us t (List.replicate (V : Int).toNat false) = _
    rw [show (V : Int).toNat = V by omega, any_asg h.row h.ok h.hin hV, hp]
  · rw [if_pos rfl, if_neg (by omega)]
end Go.Proofs.Ytgfnpfchdlcoeaa
