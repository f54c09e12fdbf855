/- Of no program: operations that leave memory alone, carried out. -/
import Derived.Test.YtfpcailbobjfnaaA14
set_option linter.unusedVariables false
set_option linter.unusedSimpArgs false
namespace Go.Proofs.Ytfpcailbobjfnaa
open Go Go.RowKit
section
variable {P : Program} {c : Cx} {τ : Fr} {a : Act} {w w' : World} {pl pl' : List (Option (Nat × Nat))} {H : AHeap} {sh sh' : List (Nat × Nat)} {own : Nat → Prop}
def ARd (w : World) (pl : List (Option (Nat × Nat))) (own : Nat → Prop) (l : List AV) (vs : Array Value) : Prop := vs.size = l.length ∧ ∀ j x, l[j]? = some x → Rd w pl own x (vs.getD j undef)
theorem ARd.append {l m : List AV} {vs us : Array Value} (h : ARd w pl own l vs) (k : ARd w pl own m us) : ARd w pl own (l ++ m) (vs ++ us) := by
  refine ⟨by simp [h.1, k.1], fun j x hj => ?_⟩
  have e : (vs ++ us).getD j undef = if j < vs.size then vs.getD j undef else us.getD (j - vs.size) undef := by
    simp only [Array.getD_eq_getD_getElem?, Array.getElem?_append]
    split <;> rfl
  rw [e]
  by_cases hlt : j < vs.size
  · rw [if_pos hlt]
    rw [List.getElem?_append_left (by have := h.1; omega)] at hj
    exact h.2 j x hj
  · rw [if_neg hlt]
    rw [List.getElem?_append_right (by have := h.1; omega)] at hj
    rw [h.1]
    exact k.2 _ x hj
theorem RelS.args (h : RelS c τ H sh pl a w) (xs : Array Operand) : ARd w pl (ownB c.E H pl) (xs.toList.map (evalA τ)) (xs.map a.eval) := by
  refine ⟨by simp, fun j x hj => ?_⟩
  rw [List.getElem?_map, Option.map_eq_some_iff] at hj
  obtain ⟨y, hy, rfl⟩ := hj
  have e : (xs.map a.eval).getD j undef = a.eval y := by
    rw [Array.getD_eq_getD_getElem?, Array.getElem?_map]
    rw [Array.getElem?_toList] at hy
    rw [hy]; rfl
  rw [e]
  exact h.eval y
theorem wp_value {o : Oper} {v : Value} {K : Act → World → Prop} {Q : Exit → Act → World → Prop} (hr : (execOp a.eval o).run P w = .ok (.value v) w') (h : K (a.put o.dst v) w') : o.wp P a w K Q := by
  unfold Oper.wp
  rw [hr]
  exact h
theorem wp_skip' {o : Oper} {K : Act → World → Prop} {Q : Exit → Act → World → Prop} (hr : (execOp a.eval o).run P w = .ok .skip w') (h : K (a.put o.dst undef) w') : o.wp P a w K Q := by
  unfold Oper.wp
  rw [hr]
  exact h
theorem wp_enter {o : Oper} {f : FuncId} {args : Array Value} {K : Act → World → Prop} {Q : Exit → Act → World → Prop} (hr : (execOp a.eval o).run P w = .ok (.enter f args) w') (h : Calls P f args w' fun e w'' => ∃ v, e = .returned v ∧ K (a.put o.dst v) w'') : o.wp P a w K Q := by
  unfold Oper.wp
  rw [hr]
  exact h.mono fun e w'' ⟨v, he, hk⟩ => by subst he; exact hk
theorem RelS.below (h : RelS c τ H sh pl a w) (hb : Below w.heap.size w w') : RelS c τ H sh pl a w' := by
  have hs : Stp (fun _ => False) w w' := ⟨hb.os, hb.tape, hb.output, hb.size, fun b h _ => hb.block b h, fun b s hs => (shape_of_eq (hb.block b (shape_lt hs))).trans hs⟩
  refine h.step (hs.mono fun _ _ h => h.elim) (fun _ _ h => h) (fun b hb => .inl hb) ⟨h.h.len, fun id o ho => ?_, h.h.dis, h.h.ext, h.h.shl, h.h.shr⟩
  refine (h.h.obj id o ho).mono hb.size (fun b h _ => hb.block b h) (fun _ _ h => h) hs.shape (fun _ _ h => h) (fun h => h) (fun hl b e he => hb.block b (h.h.block_lt ho hl he))
theorem RelS.own_lt (h : RelS c τ H sh pl a w) (b : Nat) (hb : ownB c.E H pl b) : b < w.heap.size := by
  rcases hb with hb | ⟨id, o, k, h1, h2, h3⟩
  · exact h.lt b hb
  · exact h.h.block_lt h1 h2 h3
/-- The operation that calls: it enters. -/
theorem call_run {f : Operand} {args : Array Operand} {ts : Array TypeId} {o : Oper} (ho : o.op = .call { callee := .value f, args := args, argTypes := ts }) {n : FuncId} {fi ca : Array Value} (hf : a.eval f = .func (.func n) fi ca) (he : entO P n = true) :
    (execOp a.eval o).run P w = .ok (.enter n (fi ++ args.map a.eval ++ ca)) w := by
  unfold entO at he
  split at he
  · rename_i fn hfn
    simp only [Bool.and_eq_true, bne_iff_ne, ne_eq] at he
    obtain ⟨h1, h2⟩ := he
    have h3 : fn.body ≠ none := fun e => by rw [e] at h2; cases h2
    unfold execOp
    simp [ho, resolve, hf, Deferred.ofValue, invoke, callFunc, hfn, h1, h3]
  · cases he
theorem calleeOf_rd {x : AV} {n : FuncId} {fi ca : List AV} (h : calleeOf x = some (n, fi, ca)) {v : Value} (hv : Rd w pl own x v) : ∃ vs us, v = .func (.func n) vs us ∧ ARd w pl own fi vs ∧ ARd w pl own ca us := by
  unfold calleeOf at h
  split at h
  · split at h
    · rename_i hz
      cases h
      cases hv with | d _ _ hv =>
      cases hv
      (refine ⟨_, _, rfl, ⟨hz.1, fun j x hj => ?_⟩, ⟨hz.2, fun j x hj => ?_⟩⟩ <;> simp at hj)
    · cases h
  · cases h
    cases hv with | clo _ _ _ vs us hl hx hl' hx' => exact ⟨vs, us, rfl, ⟨hl, hx⟩, ⟨hl', hx'⟩⟩
  · cases h
    cases hv with | d _ _ hv =>
    cases hv with | clo _ _ _ vs us hl hx hl' hx' =>
    refine ⟨vs, us, rfl, ⟨by simpa using hl, fun j x hj => ?_⟩, ⟨by simpa using hl', fun j x hj => ?_⟩⟩
    · rw [List.getElem?_map, Option.map_eq_some_iff] at hj
      obtain ⟨y, hy, rfl⟩ := hj
      exact .d _ _ (hx j y hy)
    · rw [List.getElem?_map, Option.map_eq_some_iff] at hj
      obtain ⟨y, hy, rfl⟩ := hj
      exact .d _ _ (hx' j y hy)
  · cases h
theorem CallQ_sound (h : RelS c τ H sh pl a w) {o : Oper} {f : Operand} {args : Array Operand} {ts : Array TypeId} (ho : o.op = .call { callee := .value f, args := args, argTypes := ts }) {N0 : Nat} {x : AV} (hq : CallQ P N0 H (evalA τ f) (args.toList.map (evalA τ)) x) {K : Act → World → Prop} {Q : Exit → Act → World → Prop}
    (hK : ∀ v w', RelS c τ H sh pl a w' → Rd w' pl (ownB c.E H pl) x v → K (a.put o.dst v) w') : o.wp P a w K Q := by
  obtain ⟨n, fi, ca, ds, hc, hq⟩ := hq
  obtain ⟨vs, us, hv, h1, h2⟩ := calleeOf_rd hc (h.eval f)
  have hall := (h1.append (h.args args)).append h2
  rcases hq with ⟨hds, hp⟩ | ⟨hds, hp⟩
  · refine wp_enter (call_run ho hv hp.1) ?_
    rcases hds with hds | ⟨hs, hds⟩
    · obtain ⟨l1, l2⟩ := toDs_rd w pl (ownB c.E H pl) _ ds _ hds hall.2
      refine (hp.2 w (ownB c.E H pl) _ (by rw [hall.1, l1]) l2 h.own_lt).mono fun e w' ⟨v, he, hr, hb⟩ => ⟨v, he, hK v w' (h.below hb) ?_⟩
      exact hr.mono (Nat.le_refl _) (fun _ _ _ => rfl) (fun _ _ h => h) (fun _ _ h => h) (fun i p hp => by simp at hp)
    · obtain ⟨l1, l2⟩ := (deep_rd h.h N0 9).2 _ ds _ hds hall.2
      refine (hp.2 w c.E _ (by rw [hall.1, l1]) l2 h.lt).mono fun e w' ⟨v, he, hr, hb⟩ => ⟨v, he, hK v w' (h.below hb) ?_⟩
      unfold scalarA at hs
      split at hs
      · cases hr with | d _ _ hr => cases hr; exact .d _ _ (.val _)
      · cases hs
  · refine wp_enter (call_run ho hv hp.1) ?_
    obtain ⟨l1, l2⟩ := (deep_rd h.h N0 9).2 _ ds _ hds hall.2
    refine (hp.2 w c.E _ (by rw [hall.1, l1]) l2 h.lt).mono fun e w' ⟨v, he, hr, hb⟩ => ⟨v, he, hK v w' (h.below hb) ?_⟩
    exact hr.mono (Nat.le_refl _) (fun _ _ _ => rfl) (fun b _ hb' => hb'.elim .inl fun h' => .inr (h.own_lt b (.inr h'))) (fun _ _ h => h) (fun i p hp => by simp at hp)
theorem max2_eq (k k' : IntKind) (a b : Int) (w : World) : (Builtin.max2 (.int k a) (.int k' b)).run P w = .ok (.int k (max a b)) w := by
  unfold Builtin.max2
  have : (if b > a then b else a) = max a b := by rw [Int.max_def]; split <;> split <;> omega
  show (pure (Value.int k (if b > a then b else a)) : Sem Value).run P w = _
  rw [this]; rfl
theorem min2_eq (k k' : IntKind) (a b : Int) (w : World) : (Builtin.min2 (.int k a) (.int k' b)).run P w = .ok (.int k (min a b)) w := by
  unfold Builtin.min2
  have : (if b < a then b else a) = min a b := by rw [Int.min_def]; split <;> split <;> omega
  show (pure (Value.int k (if b < a then b else a)) : Sem Value).run P w = _
  rw [this]; rfl
theorem map1 {α β : Type} {f : α → β} {l : List α} {a : β} (h : l.map f = [a]) : ∃ x, l = [x] ∧ f x = a := by
  rcases l with _ | ⟨x, _ | ⟨y, l⟩⟩ <;> simp at h
  exact ⟨x, rfl, h⟩
theorem map2 {α β : Type} {f : α → β} {l : List α} {a b : β} (h : l.map f = [a, b]) : ∃ x y, l = [x, y] ∧ f x = a ∧ f y = b := by
  rcases l with _ | ⟨x, _ | ⟨y, _ | ⟨z, l⟩⟩⟩ <;> simp at h
  exact ⟨x, y, rfl, h⟩
theorem map3 {α β : Type} {f : α → β} {l : List α} {a b c : β} (h : l.map f = [a, b, c]) : ∃ x y z, l = [x, y, z] ∧ f x = a ∧ f y = b ∧ f z = c := by
  rcases l with _ | ⟨x, _ | ⟨y, _ | ⟨z, _ | ⟨t, l⟩⟩⟩⟩ <;> simp at h
  exact ⟨x, y, z, rfl, h⟩
theorem int_rd {k : IntKind} {n : Int} {v : Value} (h : Rd w pl own (.d (.val (.int k n))) v) : v = .int k n := by cases h with | d _ _ h => cases h; rfl
theorem BuiltinQ_run (h : RelS c τ H sh pl a w) {b : Builtin} {args : Array Operand} {ts : Array TypeId} {x : AV} (hq : BuiltinQ P b ts.toList (args.toList.map (evalA τ)) x) (ty : TypeId) (cs : Array Bool) :
    ∃ v, (builtin b ts ty cs (args.map a.eval)).run P w = .ok (.value v) w ∧ Rd w pl (ownB c.E H pl) x v := by
  have hA := h.args args
  obtain ⟨args⟩ := args
  obtain ⟨ts⟩ := ts
  unfold BuiltinQ at hq
  split at hq
  · rename_i t y e1 e2
    obtain ⟨n, hn, rfl⟩ := hq
    obtain ⟨o1, e3, e4⟩ := map1 e2
    simp only at e1 e3
    subst e1 e3 e4
    have := hn.run (h.eval o1) ty
    exact ⟨_, by simp [builtin, this], .d _ _ (.val _)⟩
  · rename_i k a' k' b' e2
    subst hq
    obtain ⟨o1, o2, e3, e4, e5⟩ := map2 e2
    simp only at e3
    subst e3
    have r1 := int_rd (e4 ▸ h.eval o1)
    have r2 := int_rd (e5 ▸ h.eval o2)
    refine ⟨.int k (max a' b'), ?_, .d _ _ (.val _)⟩
    simp [builtin, Builtin.max_, r1, r2, max2_eq]
  · rename_i k a' k' b' e2
    subst hq
    obtain ⟨o1, o2, e3, e4, e5⟩ := map2 e2
    simp only at e3
    subst e3
    have r1 := int_rd (e4 ▸ h.eval o1)
    have r2 := int_rd (e5 ▸ h.eval o2)
    refine ⟨.int k (min a' b'), ?_, .d _ _ (.val _)⟩
    simp [builtin, Builtin.min_, r1, r2, min2_eq]
  · rename_i k a' k' b' k'' c' e2
    subst hq
    obtain ⟨o1, o2, o3, e3, e4, e5, e6⟩ := map3 e2
    simp only at e3
    subst e3
    have r1 := int_rd (e4 ▸ h.eval o1)
    have r2 := int_rd (e5 ▸ h.eval o2)
    have r3 := int_rd (e6 ▸ h.eval o3)
    refine ⟨.int k (max (max a' b') c'), ?_, .d _ _ (.val _)⟩
    simp [builtin, Builtin.max_, r1, r2, r3, max2_eq]
  · rename_i k a' k' b' k'' c' e2
    subst hq
    obtain ⟨o1, o2, o3, e3, e4, e5, e6⟩ := map3 e2
    simp only at e3
    subst e3
    have r1 := int_rd (e4 ▸ h.eval o1)
    have r2 := int_rd (e5 ▸ h.eval o2)
    have r3 := int_rd (e6 ▸ h.eval o3)
    refine ⟨.int k (min (min a' b') c'), ?_, .d _ _ (.val _)⟩
    simp [builtin, Builtin.min_, r1, r2, r3, min2_eq]
  · exact hq.elim
end
end Go.Proofs.Ytfpcailbobjfnaa
