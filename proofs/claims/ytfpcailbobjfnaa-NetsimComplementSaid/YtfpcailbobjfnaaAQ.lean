/- Of no program: states that may be read as others: fewer slots, fewer objects, empty rows, rows that become data. -/
import Derived.Test.YtfpcailbobjfnaaAP
set_option linter.unusedVariables false
set_option linter.unusedSimpArgs false
namespace Go.Proofs.Ytfpcailbobjfnaa
open Go Go.RowKit
/-- Where the first state holds, the second may be taken. -/
def Rt (τ : Fr) (H : AHeap) (τ' : Fr) (H' : AHeap) : Prop := ∀ (c : Cx) (a : Act) (w : World), c.pl0 = [] → R c τ H [] a w → R c τ' H' [] a w
theorem Rt.refl (τ : Fr) (H : AHeap) : Rt τ H τ H := fun _ _ _ _ h => h
theorem Rt.trans {τ τ1 τ2 : Fr} {H H1 H2 : AHeap} (h : Rt τ H τ1 H1) (k : Rt τ1 H1 τ2 H2) : Rt τ H τ2 H2 := fun c a w hp hR => k c a w hp (h c a w hp hR)
theorem Rt.less {τ τ' : Fr} {H : AHeap} (h : Less τ τ') : Rt τ H τ' H := fun _ _ _ _ hR => hR.less h
theorem Rt.gc {τ : Fr} {H : AHeap} {keep : List Nat} (hn : keep.Nodup) (hb : ∀ i ∈ keep, i < H.length) : Rt τ H (fun t => gcV keep (τ t)) (gcH keep H) := fun _ _ _ hp hR => hR.gc hp hn hb
theorem Rt.new {τ : Fr} {H : AHeap} : Rt τ H τ (H ++ [.cells []]) := fun c a w _ ⟨pl, hR⟩ => by
  have h1 := hR.reserve.nowhere (n := H.length) (by simp) (fun p hp => by cases hp)
  have e : (H ++ [AObj.free]).set H.length (.cells []) = H ++ [.cells []] := by rw [List.set_append_right _ _ (Nat.le_refl _)]; simp
  rw [e] at h1
  exact ⟨_, h1⟩
/-- One abstract value says no more than the other. -/
def Imp (x y : AV) : Prop := ∀ (w : World) (pl : List (Option (Nat × Nat))) (own : Nat → Prop) (v : Value), Rd w pl own x v → Rd w pl own y v
theorem Imp.nil (k id off : Nat) : Imp (.d (.val (.slice none 0 0))) (.os k id off 0) := fun _ _ _ v h => by
  cases h with | d _ _ h => cases h; exact .os0 _ _ _ _
theorem Imp.fix (y : D) : Imp (.d y) (.d y.fix) := fun _ _ _ v h => by
  cases h with | d _ _ h => exact .d _ _ (fix_rd h)
theorem Imp.fixnil : Imp (.d (.val (.slice none 0 0))) (.d (.fs [] 0)) := Imp.fix _
theorem Imp.any (x : AV) : Imp x .any := fun _ _ _ _ _ => .any _
theorem Rt.put {τ : Fr} {H : AHeap} (t : Nat) {x : AV} (h : Imp (τ t) x) : Rt τ H (τ.put (some t) x) H := fun c a w _ ⟨pl, hR⟩ =>
  ⟨pl, hR.h, hR.stp, hR.own0, hR.ext, fun s => by
    simp only [Fr.put]
    split
    · rename_i e; subst e; exact h _ _ _ _ (hR.fr s)
    · exact hR.fr s, hR.size, hR.defs, hR.keep⟩
theorem Rt.cell {τ : Fr} {H : AHeap} {id j : Nat} {cs : List AV} {x y : AV} (hid : H[id]? = some (.cells cs)) (hj : cs[j]? = some y) (h : Imp y x) : Rt τ H τ (H.set id (.cells (cs.set j x))) := fun c a w _ ⟨pl, hR⟩ => by
  have live : ∀ (i : Nat) (o : AObj), (H.set id (.cells (cs.set j x)))[i]? = some o → o.live = true → ∃ o', H[i]? = some o' ∧ o'.live = true := fun i o hi hl => by
    rcases set_cases hi with ⟨rfl, rfl, _⟩ | ⟨_, hi⟩
    · exact ⟨_, hid, rfl⟩
    · exact ⟨_, hi, hl⟩
  have hown : ∀ b, ownB c.E (H.set id (.cells (cs.set j x))) pl b → ownB c.E H pl b := fun b hb => by
    rcases hb with hb | ⟨i, o, e, h1, h2, h3⟩
    · exact .inl hb
    · obtain ⟨o', k1, k2⟩ := live i o h1 h2
      exact .inr ⟨i, o', e, k1, k2, h3⟩
  have hmono : ∀ z v, Rd w pl (ownB c.E H pl) z v → Rd w pl (ownB c.E (H.set id (.cells (cs.set j x))) pl) z v := fun z v hx => hx.mono (Nat.le_refl _) (fun _ _ _ => rfl) (fun b _ hb => hown b hb) (fun _ _ h => h) (fun _ _ h => h)
  refine ⟨pl, ⟨by simpa using hR.h.len, fun i o hi => ?_, fun i k oi ok p q h1 h2 l1 l2 hne s1 s2 p1 p2 => ?_, fun i o p h1 l1 p1 => ?_, fun p hp => (by cases hp), fun i k ci ck p q hm => (by cases hm)⟩, hR.stp, fun i o p h1 l1 p1 => ?_, hR.ext, fun t => hmono _ _ (hR.fr t), hR.size, hR.defs, hR.keep⟩
  · rcases set_cases hi with ⟨rfl, rfl, _⟩ | ⟨_, hi⟩
    · have ho := hR.h.obj _ _ hid
      rcases ho with ⟨k1, k2⟩ | ⟨b, base, arr, t, k1, k2, k3, k4⟩
      · subst k1; simp at hj
      · refine .inr ⟨b, base, arr, t, k1, k2, by simpa using k3, fun i z hz => ?_⟩
        rw [List.getElem?_set] at hz
        split at hz
        · rename_i e
          subst e
          split at hz
          · cases hz
            exact ⟨hmono _ _ (h _ _ _ _ (k4 _ _ hj).1), (k4 _ _ hj).2⟩
          · cases hz
        · exact ⟨hmono _ _ (k4 _ _ hz).1, (k4 _ _ hz).2⟩
    · exact (hR.h.obj i o hi).mono (Nat.le_refl _) (fun _ _ _ => rfl) (fun b _ hb => hown b hb) (fun _ _ h => h) (fun _ _ h => h) (fun h => h) (fun _ _ _ _ => rfl)
  · obtain ⟨_, a2, a3⟩ := live i oi h1 l1
    obtain ⟨_, b2, b3⟩ := live k ok h2 l2
    exact hR.h.dis i k _ _ p q a2 b2 a3 b3 hne s1 s2 p1 p2
  · obtain ⟨_, a2, a3⟩ := live i o h1 l1
    exact hR.h.ext i _ p a2 a3 p1
  · obtain ⟨_, a2, a3⟩ := live i o h1 l1
    exact hR.own0 i _ p a2 a3 p1
/-! ### A row that becomes data -/
mutual
def fzV (id : Nat) (l : List D) : AV → AV
  | .any => .any
  | .d x => .d x
  | .os k i off n => if i = id then (match takeD l off (n * k) with | some m => .d (.fs m n) | none => .any) else .os k i off n
  | .op i off => if i = id then .d (.fp l off) else .op i off
  | .om i => .om i
  | .agg cs => .agg (fzVs id l cs)
  | .tup cs => .tup (fzVs id l cs)
  | .clo fn fi ca => .clo fn (fzVs id l fi) (fzVs id l ca)
def fzVs (id : Nat) (l : List D) : List AV → List AV
  | [] => []
  | x :: m => fzV id l x :: fzVs id l m
end
def fzO (id : Nat) (l : List D) : AObj → AObj
  | .free => .free
  | .dead => .dead
  | .cells cs => .cells (fzVs id l cs)
  | .map es clock => .map (es.map fun e => (e.1, e.2.1, fzV id l e.2.2)) clock
def fzH (id : Nat) (l : List D) (H : AHeap) : AHeap := (H.set id .dead).map (fzO id l)
theorem fzVs_eq (id : Nat) (l : List D) : ∀ cs : List AV, fzVs id l cs = cs.map (fzV id l)
  | [] => rfl
  | x :: m => by rw [fzVs, fzVs_eq id l m]; rfl
theorem fzO_live (id : Nat) (l : List D) (o : AObj) : (fzO id l o).live = o.live := by cases o <;> rfl
section
variable {c : Cx} {τ : Fr} {a : Act} {w : World} {pl : List (Option (Nat × Nat))} {H : AHeap}
theorem fz_rd {id : Nat} {l : List D} {own own' : Nat → Prop} (hw : ∀ b, own' b → own b)
    (hid : ∀ b base, pl[id]? = some (some (b, base)) → ∃ arr t, w.heap[b]? = some (.cells arr t (0, 0)) ∧ ¬ own' b ∧ base + l.length ≤ arr.size ∧ ∀ j y, l[j]? = some y → RdD w own' y (arr.getD (base + j) undef) ∧ (arr.getD (base + j) undef).oneCell' = true)
    {x : AV} {v : Value} (h : Rd w pl own x v) : Rd w pl own' (fzV id l x) v := by
  have gets : ∀ {cs : List AV} {j : Nat} {y : AV}, (fzVs id l cs)[j]? = some y → ∃ x, cs[j]? = some x ∧ y = fzV id l x := fun {cs j y} h => by
    rw [fzVs_eq, List.getElem?_map, Option.map_eq_some_iff] at h
    obtain ⟨x, hx, rfl⟩ := h
    exact ⟨x, hx, rfl⟩
  induction h with
  | any v => rw [fzV]; exact .any v
  | d x v h => rw [fzV]; exact .d _ _ (h.mono (Nat.le_refl _) (fun _ _ _ => rfl) (fun b _ hb => hw b hb))
  | os k i off n cap b base sz t h1 h2 h3 h4 h5 =>
    rw [fzV]
    split
    · rename_i e
      subst e
      split
      · rename_i m hm
        obtain ⟨t1, t2⟩ := takeD_get hm
        obtain ⟨arr, t', k2, hE, k3, k4⟩ := hid b base h1
        have hlt : ∀ (j : Nat) (y : D), m[j]? = some y → l[off + j]? = some y ∧ off + j < l.length := fun j y hj => by
          have hj' : j < m.length := (List.getElem?_eq_some_iff.1 hj).1
          have h2 := t2 j (by omega)
          rw [hj] at h2
          exact ⟨h2.symm, (List.getElem?_eq_some_iff.1 h2.symm).1⟩
        refine .d _ _ (.fs m n cap b (base + off) (fun j => arr.getD (base + (off + j)) undef) (Array.getElem?_eq_some_iff.1 k2).1 hE h3 h4 (fun j y hj => ?_) (fun j y hj => ?_) (fun j y hj => ?_))
        · have := (hlt j y hj).2
          rw [Nat.add_assoc, cell_of_row _ _ _ _ _ _ k2]
          simp [Array.getD, show base + (off + j) < arr.size by omega]
        · exact (k4 _ _ (hlt j y hj).1).2
        · exact (k4 _ _ (hlt j y hj).1).1
      · exact .any _
    · exact .os k i off n cap b base sz t h1 h2 h3 h4 h5
  | os0 k i off ad =>
    rw [fzV]
    split
    · split
      · rename_i m hm
        have := (takeD_get hm).1
        have : m = [] := List.eq_nil_of_length_eq_zero (by simpa using this)
        subst this
        exact .d _ _ (.f0 ad 0 (Nat.zero_le _) (fun _ => rfl))
      · exact .any _
    · exact .os0 _ _ _ _
  | op i off b base h1 =>
    rw [fzV]
    split
    · rename_i e
      subst e
      obtain ⟨arr, t', k2, hE, k3, k4⟩ := hid b base h1
      refine .d _ _ (.fp l off b base (fun j => arr.getD (base + j) undef) (Array.getElem?_eq_some_iff.1 k2).1 hE (fun j y hj => ?_) (fun j y hj => (k4 j y hj).2) (fun j y hj => (k4 j y hj).1))
      have := (List.getElem?_eq_some_iff.1 hj).1
      rw [cell_of_row _ _ _ _ _ _ k2]
      simp [Array.getD, show base + j < arr.size by omega]
    · exact .op i off b base h1
  | om i b base h1 => rw [fzV]; exact .om i b base h1
  | agg cs vs hl _ ih =>
    rw [fzV]
    refine .agg _ _ (by rw [fzVs_eq]; simpa using hl) fun j y hj => ?_
    obtain ⟨x, hx, rfl⟩ := gets hj
    exact ih j x hx
  | tup cs vs hl _ ih =>
    rw [fzV]
    refine .tup _ _ (by rw [fzVs_eq]; simpa using hl) fun j y hj => ?_
    obtain ⟨x, hx, rfl⟩ := gets hj
    exact ih j x hx
  | clo fn fi ca vs us hl _ hl' _ ih ih' =>
    rw [fzV]
    refine .clo _ _ _ _ _ (by rw [fzVs_eq]; simpa using hl) (fun j y hj => ?_) (by rw [fzVs_eq]; simpa using hl') (fun j y hj => ?_)
    · obtain ⟨x, hx, rfl⟩ := gets hj
      exact ih j x hx
    · obtain ⟨x, hx, rfl⟩ := gets hj
      exact ih' j x hx
theorem Rt.fz {τ : Fr} {H : AHeap} {id : Nat} {l : List D} (hid : H[id]? = some (.cells (l.map .d))) : Rt τ H (fun t => fzV id l (τ t)) (fzH id l H) := fun c a w _ ⟨pl, hR0⟩ => by
  have hR := hR0.kill id (sh' := []) (fun i j hm => by cases hm) (fun p hp => by cases hp)
  have hlen : id < H.length := (List.getElem?_eq_some_iff.1 hid).1
  have back : ∀ {j : Nat} {o' : AObj}, (fzH id l H)[j]? = some o' → ∃ o, (H.set id .dead)[j]? = some o ∧ o' = fzO id l o := fun {j o'} hj => by
    unfold fzH at hj
    rw [List.getElem?_map, Option.map_eq_some_iff] at hj
    obtain ⟨o, ho, rfl⟩ := hj
    exact ⟨o, ho, rfl⟩
  have live : ∀ {j : Nat} {o' : AObj}, (fzH id l H)[j]? = some o' → o'.live = true → ∃ o, (H.set id .dead)[j]? = some o ∧ o.live = true ∧ H[j]? = some o ∧ j ≠ id := fun {j o'} hj hl => by
    obtain ⟨o, ho, rfl⟩ := back hj
    rw [fzO_live] at hl
    rcases set_cases ho with ⟨_, rfl, _⟩ | ⟨hne, ho'⟩
    · cases hl
    · exact ⟨o, ho, hl, ho', hne⟩
  have hown : ∀ b, ownB c.E (fzH id l H) pl b → ownB c.E (H.set id .dead) pl b := fun b hb => by
    rcases hb with hb | ⟨j, o, e, h1, h2, h3⟩
    · exact .inl hb
    · obtain ⟨o', k1, k2, _⟩ := live h1 h2
      exact .inr ⟨j, o', e, k1, k2, h3⟩
  have hown2 : ∀ b, ownB c.E (fzH id l H) pl b → ownB c.E H pl b := fun b hb => by
    rcases hb with hb | ⟨j, o, e, h1, h2, h3⟩
    · exact .inl hb
    · obtain ⟨o', _, k2, k3, _⟩ := live h1 h2
      exact .inr ⟨j, o', e, k3, k2, h3⟩
  have hrow : ∀ b base, pl[id]? = some (some (b, base)) → ∃ arr t, w.heap[b]? = some (.cells arr t (0, 0)) ∧ ¬ ownB c.E (fzH id l H) pl b ∧ base + l.length ≤ arr.size ∧ ∀ j y, l[j]? = some y → RdD w (ownB c.E (fzH id l H) pl) y (arr.getD (base + j) undef) ∧ (arr.getD (base + j) undef).oneCell' = true := fun b base hp => by
    rcases hR0.h.obj _ _ hid with ⟨k1, k2⟩ | ⟨b', base', arr, t, k1, k2, k3, k4⟩
    · rw [hp] at k2; cases k2
    · rw [hp] at k1; cases k1
      refine ⟨arr, t, k2, fun hb => ?_, by simpa using k3, fun j y hj => ?_⟩
      · rcases hb with hb | ⟨i, o, e, h1, h2, h3⟩
        · exact hR0.h.ext id _ _ hid rfl hp hb
        · obtain ⟨o', _, m2, m3, m4⟩ := live h1 h2
          exact hR0.h.dis i id o' _ _ _ m3 hid m2 rfl m4 (by simp) (by simp) h3 hp rfl
      · have := k4 j (.d y) (by rw [List.getElem?_map, hj]; rfl)
        obtain ⟨h1, h2⟩ := this
        cases h1 with | d _ _ h1 =>
        exact ⟨h1.mono (Nat.le_refl _) (fun _ _ _ => rfl) (fun b _ hb => hown2 b hb), h2⟩
  have key : ∀ {x v}, Rd w pl (ownB c.E (H.set id .dead) pl) x v → Rd w pl (ownB c.E (fzH id l H) pl) (fzV id l x) v := fun h => fz_rd hown hrow h
  refine ⟨pl, ⟨by simpa [fzH] using hR.h.len, fun j o' hj => ?_, fun i j oi oj p q h1 h2 l1 l2 hne _ _ p1 p2 => ?_, fun i o p h1 l1 p1 => ?_, fun p hp => (by cases hp), fun i j ci cj p q hm => (by cases hm)⟩, hR.stp, fun i o p h1 l1 p1 => ?_, hR.ext, fun t => key (hR.fr t), hR.size, hR.defs, hR.keep⟩
  · obtain ⟨o, h2, rfl⟩ := back hj
    have ho := hR.h.obj j o h2
    cases o with
    | free => exact ho
    | dead => trivial
    | cells cs =>
      rcases ho with ⟨k1, k2⟩ | ⟨b, base, arr, t, k1, k2, k3, k4⟩
      · exact .inl ⟨by subst k1; rfl, k2⟩
      · refine .inr ⟨b, base, arr, t, k1, k2, by rw [fzVs_eq]; simpa using k3, fun j y hj => ?_⟩
        rw [fzVs_eq, List.getElem?_map, Option.map_eq_some_iff] at hj
        obtain ⟨x, hx, rfl⟩ := hj
        exact ⟨key (k4 j x hx).1, (k4 j x hx).2⟩
    | map es clock =>
      obtain ⟨b, base, ms, k1, k2, k3, k4, k5⟩ := ho
      refine ⟨b, base, ms, k1, k2, by simpa using k3, by rw [List.map_map]; exact k4, fun j e k n x hj hx => ?_⟩
      rw [List.getElem?_map, Option.map_eq_some_iff] at hx
      obtain ⟨⟨k', n', x'⟩, hx', he⟩ := hx
      cases he
      obtain ⟨m1, m2, m3⟩ := k5 j e k' n' x' hj hx'
      exact ⟨m1, m2, key m3⟩
  · obtain ⟨o1, a1, a2, _⟩ := live h1 l1
    obtain ⟨o2, b1, b2, _⟩ := live h2 l2
    exact hR.h.dis i j o1 o2 p q a1 b1 a2 b2 hne (by simp) (by simp) p1 p2
  · obtain ⟨o1, a1, a2, _⟩ := live h1 l1
    exact hR.h.ext i o1 p a1 a2 p1
  · obtain ⟨o1, a1, a2, _⟩ := live h1 l1
    exact hR.own0 i o1 p a1 a2 p1
variable {P : Program} {Q : Exit → Fr → AHeap → Prop}
theorem awp_rt {x : Code} {τ' : Fr} {H' : AHeap} (hp : c.pl0 = []) (h : Rt τ H τ' H') (hx : AWp P c x Q τ' H') : AWp P c x Q τ H := fun a w hR => hx a w (h c a w hp hR)
/-- A loop, whose law may hold of the states only once they are read as others. -/
theorem awp_loop_rt {x : Code} (hp : c.pl0 = []) (I : Fr → AHeap → Nat → Prop) (n0 : Nat) {τ0 : Fr} {H0 : AHeap} (h : Rt τ H τ0 H0) (h0 : I τ0 H0 n0)
    (round : ∀ τ H n, I τ H n → AWp P c x (thenA (fun τ' H' => ∃ n' τ1 H1, n' < n ∧ I τ1 H1 n' ∧ Rt τ' H' τ1 H1) Q) τ H) : AWp P c (.loop x) Q τ H := by
  refine awp_loop (fun τ H n => ∃ τ1 H1, I τ1 H1 n ∧ Rt τ H τ1 H1) ⟨τ0, H0, h0, h⟩ fun τ H n ⟨τ1, H1, h1, h2⟩ => ?_
  refine awp_rt hp h2 (awp_mono (round τ1 H1 n h1) fun e τ' H' hq => ?_)
  cases e with
  | normal =>
    obtain ⟨n', τ2, H2, k1, k2, k3⟩ := hq
    exact ⟨n', k1, τ2, H2, k2, k3⟩
  | _ => exact hq
end
end Go.Proofs.Ytfpcailbobjfnaa
