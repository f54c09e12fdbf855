/- The order of the numbers: the law's walk. -/
import Derived.Test.YtgfnpfchdlcoeaaQ
import Derived.Test.YtgfnpfchdlcoeaaEd
set_option linter.unusedVariables false
set_option linter.unusedSimpArgs false
namespace Go.Proofs.Ytgfnpfchdlcoeaa
open Go Go.RowKit
end Go.Proofs.Ytgfnpfchdlcoeaa

/- The order of the numbers. -/
set_option linter.unusedVariables false
set_option linter.unusedSimpArgs false
namespace Go.Proofs.Ytgfnpfchdlcoeaa
open Go Go.RowKit
/-- The gates complemented twice. -/
def notG (k : Int) : Gate := ⟨1, k, 0, 0, 0⟩
theorem not_ok {m : Nat} {d : Int} (h0 : 0 ≤ d) (h1 : d < m) : GateOk m (notG d) := ⟨by simp [notG], by simp [notG], h0, h1, by simp [notG], by show (0 : Int) < m; omega, by simp [notG], by show (0 : Int) < m; omega, by simp [notG], by simp [notG]⟩
theorem kc_allr {P : Program} {sm : List Nat} {N : Nat} {τ : Fr} {H : za0} {f : FuncId} {args : List AV} {ds : List D} {Q : AV → Prop} {KK : AV → za0 → Prop} (hp : RCalls P f ds Q) (hd : zfs (zf0 H H.length) 9 args = some ds) (hK : ∀ x, Q x → KK x (H.map fun _ => .dead)) : kC P sm N H τ (.d (.val (.func (.func f) #[] #[]))) args true (tg KK) := by
  refine kc_ics (K0 := fun x' H' => Q x' ∧ H' = H.map fun _ => .dead) ⟨hp.1, fun E w pl vals hl hx hh hE => ?_⟩ fun x' H' ⟨h1, h2⟩ => by rw [h2]; exact hK x' h1
  obtain ⟨l1, l2⟩ := (zld hh H.length 9).2 _ ds (fun j => vals.getD j undef) hd hx
  refine (hp.2 w E vals (by rw [hl, l1]) l2 hE).mono fun e w' ⟨v, x, he, hq, hr, hb⟩ => ?_
  have dead : ∀ (i : Nat) (o : AObj), (H.map fun _ => AObj.dead)[i]? = some o → o = .dead := fun i o h => by
    rw [List.getElem?_map, Option.map_eq_some_iff] at h
    obtain ⟨_, _, rfl⟩ := h; rfl
  have hs : Stp (fun _ => False) w w' := ⟨hb.os, hb.tape, hb.output, hb.size, fun b h _ => hb.block b h, fun b s hs => (zel (hb.block b (zh3 hs))).trans hs⟩
  refine ⟨v, x, _, pl, he, ⟨hq, rfl⟩, hr.mono (Nat.le_refl _) (fun _ _ _ => rfl) (fun b _ hb' => ?_) (fun _ _ h => h) (fun i p hp => by simp at hp), ⟨by simp [hh.len], fun id o ho => ?_, fun i j oi oj p q h1 h2 l1 => ?_, fun i o p h1 l1 => ?_, fun p hp => (by cases hp), fun i j ci cj p q hm => (by cases hm)⟩, hs.mono (fun _ _ h => h.elim), fun b ⟨i, o, k, h1, h2, h3⟩ => ?_, fun i p h => h⟩
  · rcases hb' with hb' | ⟨i, o, k, h1, h2, _⟩
    · exact hb'
    · rw [dead i o h1] at h2; cases h2
  · rw [dead id o ho]; trivial
  · rw [dead i oi h1] at l1; cases l1
  · rw [dead i o h1] at l1; cases l1
  · rw [dead i o h1] at h2; cases h2
end Go.Proofs.Ytgfnpfchdlcoeaa

/- Of no program: a row of rows of the call's own, as many as there are. -/
set_option linter.unusedVariables false
set_option linter.unusedSimpArgs false
namespace Go.Proofs.Ytgfnpfchdlcoeaa
open Go Go.RowKit
/-- Handles of rows, numbered from n on. -/
def hdl (n : Nat) : List (List D) → List AV
  | [] => []
  | l :: ls => .os 1 n 0 l.length :: hdl (n + 1) ls
def zef (ls : List (List D)) : za0 := ls.map fun l => .cells (avs l)
theorem zlp : ∀ (ls : List (List D)) (n : Nat), (hdl n ls).length = ls.length
  | [], _ => rfl
  | _ :: ls, n => by rw [hdl, List.length_cons, zlp ls, List.length_cons]
theorem zpw (ls : List (List D)) : (zef ls).length = ls.length := List.length_map _
theorem zsj : ∀ (ls : List (List D)) (n k : Nat), (hdl n ls)[k]? = (ls[k]?).map fun l => .os 1 (n + k) 0 l.length
  | [], _, _ => by simp [hdl]
  | l :: ls, n, 0 => by simp [hdl]
  | l :: ls, n, k + 1 => by
    rw [hdl, List.getElem?_cons_succ, zsj ls, List.getElem?_cons_succ, show n + 1 + k = n + (k + 1) by omega]
theorem hdl_at {ls : List (List D)} {n k : Nat} (h : k < ls.length) : (hdl n ls)[k]? = some (.os 1 (n + k) 0 (nth ls k).length) := by rw [zsj, zup h]; rfl
theorem rowsH_at {ls : List (List D)} {k : Nat} (h : k < ls.length) : (zef ls)[k]? = some (.cells (avs (nth ls k))) := by rw [zef, zcg h]
theorem hdl_app : ∀ (a b : List (List D)) (n : Nat), hdl n (a ++ b) = hdl n a ++ hdl (n + a.length) b
  | [], b, n => rfl
  | l :: a, b, n => by
    rw [List.cons_append, hdl, hdl, hdl_app a b, List.cons_append, List.length_cons, show n + 1 + a.length = n + (a.length + 1) by omega]
theorem rowsH_app (a b : List (List D)) : zef (a ++ b) = zef a ++ zef b := List.map_append
/-! ### As many empty rows -/
theorem Rt.rows_mk {τ : Fr} {o : AObj} (K : Nat) : ∀ j, j ≤ K → Rt [] τ [o, .cells (avs (List.replicate K (.val (.slice none 0 0))))] τ (o :: .cells (hdl 2 (List.replicate j []) ++ avs (List.replicate (K - j) (.val (.slice none 0 0)))) :: zef (List.replicate j []))
  | 0, _ => Rt.refl _ _
  | j + 1, h => by
    refine Rt.trans (Rt.rows_mk K j (by omega)) ?_
    refine Rt.trans (Rt.nilc 1 j 1 (by simp [zef]; rfl) ?_) (Rt.heap ?_)
    · rw [List.getElem?_append_right (by rw [zlp]; simp), zlp, List.length_replicate, Nat.sub_self, show K - j = (K - (j + 1)) + 1 by omega, List.replicate_succ]; rfl
    · have e1 : (hdl 2 (List.replicate j ([] : List D)) ++ avs (List.replicate (K - j) (.val (.slice none 0 0)))).set j (.os 1 (o :: .cells (hdl 2 (List.replicate j []) ++ avs (List.replicate (K - j) (.val (.slice none 0 0)))) :: zef (List.replicate j [])).length 0 0) = hdl 2 (List.replicate (j + 1) []) ++ avs (List.replicate (K - (j + 1)) (.val (.slice none 0 0))) := by
        rw [show K - j = (K - (j + 1)) + 1 by omega, List.replicate_succ, zap, List.set_append_right _ _ (by rw [zlp]; simp), zlp, List.length_replicate, Nat.sub_self, List.replicate_succ', hdl_app]
        simp [hdl, zpw]; omega
      rw [e1, List.replicate_succ' (n := j), rowsH_app]
      rfl
theorem Rt.rows {τ : Fr} {o : AObj} (K : Nat) : Rt [] τ [o, .cells (avs (List.replicate K (.val (.slice none 0 0))))] τ (o :: .cells (hdl 2 (List.replicate K [])) :: zef (List.replicate K [])) :=
  (Rt.rows_mk K K (Nat.le_refl _)).trans (Rt.heap (by simp [avs]))
/-! ### One row has been lengthened -/
/-- A list that keeps the first two objects where they are. -/
def Kp2 (keep : List Nat) : Prop := keep.Nodup ∧ keep[0]? = some 0 ∧ keep[1]? = some 1
theorem zpx : ∀ {l : List Nat} {j x : Nat}, l.Nodup → l[j]? = some x → posN l x = some j
  | [], _, _, _, h => by simp at h
  | a :: l, 0, x, _, h => by
    simp at h; subst h
    simp [posN]
  | a :: l, j + 1, x, hn, h => by
    obtain ⟨h1, h2⟩ := List.nodup_cons.1 hn
    rw [List.getElem?_cons_succ] at h
    have : x ≠ a := fun e => h1 (e ▸ List.mem_of_getElem? h)
    rw [posN, if_neg this, zpx h2 h]; rfl
/-- Nothing but the first two objects is meant. -/
def LoV (x : AV) : Prop := (∀ id l, 2 ≤ id → fzV id l x = x) ∧ ∀ keep, Kp2 keep → gcV keep x = x
theorem lo_any : LoV .any := ⟨fun _ _ _ => by rw [fzV], fun _ _ => by rw [gcV]⟩
theorem lo_d (x : D) : LoV (.d x) := ⟨fun _ _ _ => by rw [fzV], fun _ _ => by rw [gcV]⟩
theorem lo_op0 (i : Nat) : LoV (.op 0 i) := ⟨fun _ _ h => by rw [fzV, if_neg (by omega)], fun _ h => by rw [gcV, zpx h.1 h.2.1]⟩
theorem lo_os1 (k off n : Nat) : LoV (.os k 1 off n) := ⟨fun _ _ h => by rw [fzV, if_neg (by omega)], fun _ h => by rw [gcV, zpx h.1 h.2.2]⟩
def LoF (τ : Fr) : Prop := ∀ t, LoV (τ t)
theorem lo_nil : LoF (frL []) := fun _ => lo_any
theorem lo_cons {t : Nat} {x : AV} {l : List (Nat × AV)} (hx : LoV x) (h : LoF (frL l)) : LoF (frL ((t, x) :: l)) := fun s => by
  by_cases e : s = t
  · subst e; simpa [frL] using hx
  · have := h s
    simpa [frL, e] using this
def zsk (K k : Nat) : List Nat := (List.range (K + 2)).map fun i => if i = 2 + k then 3 + K else i
theorem keepR_len (K k : Nat) : (zsk K k).length = K + 2 := by simp [zsk]
theorem zkk {K k i : Nat} (h : i < K + 2) : (zsk K k)[i]? = some (if i = 2 + k then 3 + K else i) := by
  rw [zsk, List.getElem?_map, List.getElem?_range h]; rfl
theorem keepR_2 {K k : Nat} (h : k < K) : Kp2 (zsk K k) := by
  refine ⟨?_, ?_, ?_⟩
  · refine List.pairwise_map.2 (List.Pairwise.imp_of_mem (fun ha hb hne => ?_) List.nodup_range)
    rw [List.mem_range] at ha hb
    split <;> split <;> omega
  · rw [zkk (by omega), if_neg (by omega)]
  · rw [zkk (by omega), if_neg (by omega)]
theorem rows_gc {ls : List (List D)} {k : Nat} {l : List D} {cs : List D} (h : k < ls.length) :
    gcH (zsk ls.length k) (.cells (avs cs) :: .cells ((hdl 2 ls).set k (.os 1 (3 + ls.length) 0 l.length)) :: ((zef ls).set k .dead ++ [.dead, .cells (avs l)])) = .cells (avs cs) :: .cells (hdl 2 (ls.set k l)) :: zef (ls.set k l) := by
  have k2 := keepR_2 h
  refine List.ext_getElem? fun i => ?_
  unfold gcH
  rw [List.getElem?_map]
  by_cases hi : i < ls.length + 2
  · rw [zkk hi, Option.map_some]
    match i, hi with
    | 0, _ => rw [if_neg (by omega)]; simp [gcO, zaz]
    | 1, _ =>
      rw [if_neg (by omega)]
      simp only [List.getD_cons_succ, List.getD_cons_zero, List.getElem?_cons_succ, List.getElem?_cons_zero, gcO]
      congr 2
      rw [zhb]
      refine List.ext_getElem? fun j => ?_
      rw [List.getElem?_map, List.getElem?_set, zlp, zsj, zsj, List.getElem?_set]
      by_cases hj : k = j
      · subst hj
        rw [if_pos rfl, if_pos h, if_pos rfl, if_pos h]
        simp only [Option.map_some]
        rw [gcV, zpx k2.1 (j := 2 + k) (by rw [zkk (by omega), if_pos rfl])]
      · rw [if_neg hj, if_neg hj]
        cases hl : ls[j]? with
        | none => rfl
        | some m =>
          have hjl := (List.getElem?_eq_some_iff.1 hl).1
          simp only [Option.map_some]
          rw [gcV, zpx k2.1 (j := 2 + j) (by rw [zkk (by omega), if_neg (by omega)])]
    | i + 2, hi =>
      simp only [List.getElem?_cons_succ]
      rw [zef, zef, List.getElem?_map, List.getElem?_set]
      by_cases hj : k = i
      · subst hj
        rw [if_pos (by omega), if_pos rfl, if_pos h]
        have e : (3 + ls.length) = ls.length + 1 + 1 + 1 := by omega
        rw [e, List.getD_cons_succ, List.getD_cons_succ, List.getD_eq_getElem?_getD, List.getElem?_append_right (by simp [zef])]
        simp [zef, gcO, zaz]
      · have hil : i < ls.length := by omega
        rw [if_neg (by omega), if_neg hj, List.getD_cons_succ, List.getD_cons_succ, List.getD_eq_getElem?_getD, List.getElem?_append_left (by simp [zef]; omega), List.getElem?_set_ne hj, List.getElem?_map, zup hil]
        simp [gcO, zaz]
  · have : (zsk ls.length k)[i]? = none := List.getElem?_eq_none (by rw [keepR_len]; omega)
    rw [this, List.getElem?_eq_none (by simp [zef]; omega)]; rfl
/-- The new row is put at the place of the one that it was made of. -/
theorem Rt.row {τ : Fr} (hτ : LoF τ) {ls : List (List D)} {k : Nat} {l : List D} {cs : List D} (h : k < ls.length) :
    Rt [] τ (.cells (avs cs) :: .cells ((hdl 2 ls).set k (.os 1 (3 + ls.length) 0 l.length)) :: ((zef ls).set k .dead ++ [.dead, .cells (avs l)])) τ (.cells (avs cs) :: .cells (hdl 2 (ls.set k l)) :: zef (ls.set k l)) := by
  have k2 := keepR_2 h
  have hg : Rt [] τ (.cells (avs cs) :: .cells ((hdl 2 ls).set k (.os 1 (3 + ls.length) 0 l.length)) :: ((zef ls).set k .dead ++ [.dead, .cells (avs l)])) _ _ := Rt.gc (keep := zsk ls.length k) (by simp) k2.1 (fun i hi => by
    obtain ⟨j, hj, rfl⟩ := List.mem_map.1 hi
    rw [List.mem_range] at hj
    simp only [List.length_cons, List.length_append, List.length_set, zpw, List.length_nil]
    split <;> omega)
  rw [rows_gc h] at hg
  have e : (fun t => gcV (zsk ls.length k) (τ t)) = τ := funext fun t => (hτ t).2 _ k2
  rw [e] at hg
  exact hg
theorem Rt.lessl {m : List Nat} {τ τ1 : Fr} {H H1 : za0} (h1 : Less τ τ1) (h2 : Rt m τ1 H τ1 H1) : Rt m τ H τ1 H1 := (Rt.less h1).trans h2
/-! ### All rows become data -/
def fss (ls : List (List D)) : List D := ls.map fun l => .fs l l.length
theorem hdl_fz {l : List D} : ∀ (ls : List (List D)) (n m : Nat), m < n → fzVs m l (hdl n ls) = hdl n ls
  | [], _, _, _ => by simp [hdl, fzVs]
  | x :: ls, n, m, h => by rw [hdl, fzVs, fzV, if_neg (by omega), hdl_fz ls (n + 1) m (by omega)]
theorem zvk (id : Nat) (l : List D) (a b : List AV) : fzVs id l (a ++ b) = fzVs id l a ++ fzVs id l b := by rw [zgk, zgk, zgk, List.map_append]
theorem rowsH_fz (id : Nat) (l : List D) (ls : List (List D)) : (zef ls).map (fzO id l) = zef ls := by
  rw [zef, List.map_map]
  exact List.map_congr_left fun x _ => by simp [fzO, zbl]
theorem Rt.rows_fz {τ : Fr} (hτ : LoF τ) {cs : List D} : ∀ (done ls : List (List D)), Rt [] τ (.cells (avs cs) :: .cells (avs (fss done) ++ hdl (2 + done.length) ls) :: (List.replicate done.length .dead ++ zef ls)) τ (.cells (avs cs) :: .cells (avs (fss (done ++ ls))) :: List.replicate (done ++ ls).length .dead)
  | done, [] => Rt.heap (by simp [hdl, zef])
  | done, l :: ls => by
    have h := Rt.rows_fz hτ (cs := cs) (done ++ [l]) ls
    rw [List.append_assoc, List.singleton_append] at h
    refine Rt.trans ?_ h
    have hz : Rt [] τ (.cells (avs cs) :: .cells (avs (fss done) ++ hdl (2 + done.length) (l :: ls)) :: (List.replicate done.length .dead ++ zef (l :: ls))) _ _ := Rt.fz (id := 2 + done.length) (l := l) (by
      rw [show 2 + done.length = done.length + 1 + 1 by omega, List.getElem?_cons_succ, List.getElem?_cons_succ, List.getElem?_append_right (by simp)]
      simp [zef, avs])
    have e : (fun t => fzV (2 + done.length) l (τ t)) = τ := funext fun t => (hτ t).1 _ _ (by omega)
    rw [e] at hz
    refine hz.trans (Rt.heap ?_)
    unfold fzH
    rw [show 2 + done.length = done.length + 1 + 1 by omega, List.set_cons_succ, List.set_cons_succ, List.map_cons, List.map_cons]
    have e2 : (List.replicate done.length AObj.dead ++ zef (l :: ls)).set done.length AObj.dead = List.replicate (done.length + 1) AObj.dead ++ zef ls := by
      rw [List.set_append_right _ _ (by simp)]
      simp [zef, List.replicate_succ']
    rw [e2, List.map_append, rowsH_fz, List.map_replicate]
    simp only [fzO, zbl, zvk]
    rw [hdl, fzVs, hdl_fz ls _ _ (by omega), fzV, if_pos rfl, zak (by simp)]
    simp [fss, avs, Nat.add_comm, Nat.add_left_comm, Nat.add_assoc]
theorem Rt.rows_all {τ : Fr} (hτ : LoF τ) {cs : List D} {ls : List (List D)} : Rt [] τ (.cells (avs cs) :: .cells (hdl 2 ls) :: zef ls) τ [.cells (avs cs), .cells (avs (fss ls))] := by
  have h := Rt.rows_fz hτ (cs := cs) [] ls
  have hg : Rt [] τ (.cells (avs cs) :: .cells (avs (fss ls)) :: List.replicate ls.length .dead) _ _ := Rt.gc (keep := [0, 1]) (by simp) (by decide) (by simp)
  have e : (fun t => gcV [0, 1] (τ t)) = τ := funext fun t => (hτ t).2 _ ⟨by decide, rfl, rfl⟩
  rw [e] at hg
  refine (Rt.heap ?_).trans (h.trans ((Rt.heap ?_).trans (hg.trans (Rt.heap ?_))))
  · simp [fss, avs]
  · simp
  · simp [gcH, gcO, zaz]
end Go.Proofs.Ytgfnpfchdlcoeaa
