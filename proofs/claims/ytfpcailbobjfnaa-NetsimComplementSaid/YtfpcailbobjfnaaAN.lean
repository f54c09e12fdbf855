/- Of no program: maps of the call's own, written. -/
import Derived.Test.YtfpcailbobjfnaaA15
set_option linter.unusedVariables false
set_option linter.unusedSimpArgs false
namespace Go.Proofs.Ytfpcailbobjfnaa
open Go Go.RowKit
section
variable {P : Program} {c : Cx} {τ : Fr} {a : Act} {w w' : World} {pl pl' : List (Option (Nat × Nat))} {H H' : AHeap} {sh : List (Nat × Nat)} {own : Nat → Prop}
def World.setMap (w : World) (b : Nat) (ms : Array MapEntry) (clock : Nat) : World := { w with heap := w.heap.setIfInBounds b (.map ms clock) }
theorem setMap_other (w : World) (b k : Nat) (ms : Array MapEntry) (clock : Nat) (h : k ≠ b) : (World.setMap w b ms clock).heap[k]? = w.heap[k]? := by
  unfold World.setMap
  exact Array.getElem?_setIfInBounds_ne (Ne.symm h)
theorem setMap_self (w : World) (b : Nat) (ms : Array MapEntry) (clock : Nat) {o : Obj} (h : w.heap[b]? = some o) : (World.setMap w b ms clock).heap[b]? = some (.map ms clock) := by
  unfold World.setMap
  have hlt : b < w.heap.size := (Array.getElem?_eq_some_iff.1 h).1
  simp [hlt]
theorem setMap_size (w : World) (b : Nat) (ms : Array MapEntry) (clock : Nat) : (World.setMap w b ms clock).heap.size = w.heap.size := by simp [World.setMap]
theorem setMap_shape (w : World) (b : Nat) (ms ms0 : Array MapEntry) (clock clock0 : Nat) (hg : w.heap[b]? = some (.map ms0 clock0)) (k : Nat) (s : TypeId × Nat) (hs : w.shape? k = some s) : (World.setMap w b ms clock).shape? k = some s := by
  by_cases hk : k = b
  · subst hk
    unfold World.shape? at hs
    rw [hg] at hs
    cases hs
  · exact (shape_of_eq (setMap_other w b k ms clock hk)).trans hs
theorem RelS.writeMap (h : RelS c τ H sh pl a w) {id b base : Nat} {es es' : List (Value × Nat × AV)} {ms ms' : Array MapEntry} {clock clock' : Nat} (hid : H[id]? = some (.map es clock)) (hp : pl[id]? = some (some (b, base))) (hg : w.heap[b]? = some (.map ms clock))
    (hsh : ∀ p ∈ sh, p.1 ≠ id ∧ p.2 ≠ id) (hr : MapRd w pl (ownB c.E H pl) ms' es') : RelS c τ (H.set id (.map es' clock')) sh pl a (World.setMap w b ms' clock') ∧ (∀ x v, Rd w pl (ownB c.E H pl) x v → Rd (World.setMap w b ms' clock') pl (ownB c.E (H.set id (.map es' clock')) pl) x v) := by
  have hstp : Stp (ownL H pl) w (World.setMap w b ms' clock') := ⟨rfl, rfl, rfl, by rw [setMap_size]; exact Nat.le_refl _, fun k hk hn => setMap_other w b k ms' clock' (fun e => hn (e ▸ ⟨id, _, base, hid, rfl, hp⟩)), setMap_shape w b ms' ms clock' clock hg⟩
  have hown : ∀ k, ownB c.E (H.set id (.map es' clock')) pl k → ownB c.E H pl k := fun k hk => by
    rcases hk with hk | ⟨i, o, e, h1, h2, h3⟩
    · exact .inl hk
    · rcases set_cases h1 with ⟨rfl, rfl, _⟩ | ⟨_, h1⟩
      · exact .inr ⟨i, .map es clock, e, hid, rfl, h3⟩
      · exact .inr ⟨i, o, e, h1, h2, h3⟩
  have hmono : ∀ x v, Rd w pl (ownB c.E H pl) x v → Rd (World.setMap w b ms' clock') pl (ownB c.E (H.set id (.map es' clock')) pl) x v := fun x v hx =>
    hx.mono (by rw [setMap_size]; exact Nat.le_refl _) (fun k hk hn => hstp.block k hk (fun hl => hn (.inr hl))) (fun k _ hk => hown k hk) hstp.shape (fun _ _ h => h)
  refine ⟨h.step hstp (fun _ _ h => h) (fun k hk => ?_) ⟨by simp [h.h.len], fun i o hi => ?_, fun i j oi oj p q h1 h2 l1 l2 hne s1 s2 p1 p2 => ?_, fun i o p h1 l1 p1 => ?_, fun p hp => by have := h.h.shl p hp; simpa using this, fun i j ci cj p q hm h1 h2 p1 p2 hpq => ?_⟩, hmono⟩
  · obtain ⟨i, o, e, h1, h2, h3⟩ := hk
    rcases set_cases h1 with ⟨rfl, rfl, _⟩ | ⟨_, h1⟩
    · exact .inl ⟨i, .map es clock, e, hid, rfl, h3⟩
    · exact .inl ⟨i, o, e, h1, h2, h3⟩
  · rcases set_cases hi with ⟨rfl, rfl, _⟩ | ⟨hne, hi⟩
    · exact ⟨b, base, ms', hp, setMap_self w b ms' clock' hg, hr.1, hr.2.1, fun j e k n x h1 h2 => ⟨(hr.2.2 j e k n x h1 h2).1, (hr.2.2 j e k n x h1 h2).2.1, hmono _ _ (hr.2.2 j e k n x h1 h2).2.2⟩⟩
    · refine (h.h.obj i o hi).mono (by rw [setMap_size]; exact Nat.le_refl _) (fun k hk hn => hstp.block k hk (fun hl => hn (.inr hl))) (fun k _ hk => hown k hk) hstp.shape (fun _ _ h => h) (fun h => h) (fun hl b' e hb' => setMap_other w b b' ms' clock' ?_)
      exact h.h.dis i id o _ _ _ hi hid hl rfl hne (fun hm => (hsh _ hm).2 rfl) (fun hm => (hsh _ hm).1 rfl) hb' hp
  · have conv : ∀ (i : Nat) (o : AObj), (H.set id (.map es' clock'))[i]? = some o → o.live = true → ∃ o' : AObj, H[i]? = some o' ∧ o'.live = true := fun i o h1 l1 => by
      rcases set_cases h1 with ⟨rfl, rfl, _⟩ | ⟨_, h1⟩
      · exact ⟨_, hid, rfl⟩
      · exact ⟨o, h1, l1⟩
    obtain ⟨oi', a1, a2⟩ := conv i oi h1 l1
    obtain ⟨oj', b1, b2⟩ := conv j oj h2 l2
    exact h.h.dis i j oi' oj' p q a1 b1 a2 b2 hne s1 s2 p1 p2
  · rcases set_cases h1 with ⟨rfl, rfl, _⟩ | ⟨_, h1⟩
    · exact h.h.ext i _ p hid rfl p1
    · exact h.h.ext i o p h1 l1 p1
  · rcases set_cases h1 with ⟨e1, _, _⟩ | ⟨_, h1⟩
    · exact absurd e1 (hsh _ hm).1
    · rcases set_cases h2 with ⟨e2, _, _⟩ | ⟨_, h2⟩
      · exact absurd e2 (hsh _ hm).2
      · exact h.h.shr i j ci cj p q hm h1 h2 p1 p2 hpq
/-! ### Entries turned -/
theorem MapRd.push {ms : Array MapEntry} {es : List (Value × Nat × AV)} (h : MapRd w pl own ms es) {key : Value} {val : Value} {n : Nat} {x : AV} (hk : ∀ e ∈ es, e.1 ≠ key) (hx : Rd w pl own x val) : MapRd w pl own (ms.push ⟨key, val, n⟩) (es ++ [(key, n, x)]) := by
  refine ⟨by simp [h.1], ?_, fun j e k m y h1 h2 => ?_⟩
  · rw [List.map_append, List.nodup_append]
    refine ⟨h.2.1, by simp, fun p hp q hq => ?_⟩
    obtain ⟨e, he, rfl⟩ := List.mem_map.1 hp
    simp only [List.map_cons, List.map_nil, List.mem_singleton] at hq
    rw [hq]; exact hk e he
  · rcases app_cases h2 with ⟨hlt, h3⟩ | ⟨h3, h4⟩
    · rw [Array.getElem?_push, if_neg (by have := h.1; omega)] at h1
      exact h.2.2 j e k m y h1 h3
    · rw [Array.getElem?_push, if_pos (by have := h.1; omega)] at h1
      cases h1; cases h4
      exact ⟨rfl, rfl, hx⟩
theorem MapRd.modify {ms : Array MapEntry} {es : List (Value × Nat × AV)} (h : MapRd w pl own ms es) (i : Nat) (f : MapEntry → MapEntry) (g : Value × Nat × AV → Value × Nat × AV) (hg : ∀ q, (g q).1 = q.1)
    (hf : ∀ e k n x, ms[i]? = some e → es[i]? = some (k, n, x) → (f e).key = k ∧ (f e).born = (g (k, n, x)).2.1 ∧ Rd w pl own (g (k, n, x)).2.2 (f e).val) : MapRd w pl own (ms.modify i f) (es.modify i g) := by
  refine ⟨by simp [h.1], ?_, fun j e k m y h1 h2 => ?_⟩
  · have : (es.modify i g).map (·.1) = es.map (·.1) := by
      apply List.ext_getElem?
      intro j
      simp only [List.getElem?_map, List.getElem?_modify]
      cases es[j]? with
      | none => rfl
      | some q =>
        by_cases hj : i = j
        · simp [hj, hg]
        · simp [hj]
    rw [this]; exact h.2.1
  · rw [Array.getElem?_modify] at h1
    rw [List.getElem?_modify] at h2
    by_cases hj : i = j
    · subst hj
      simp only [if_true] at h1
      cases he : es[i]? with
      | none => rw [he] at h2; simp at h2
      | some q =>
        cases hm : ms[i]? with
        | none => rw [hm] at h1; simp at h1
        | some e0 =>
          rw [he] at h2
          rw [hm] at h1
          simp at h1 h2
          obtain ⟨k0, n0, x0⟩ := q
          have := hf e0 k0 n0 x0 hm he
          have h0 := hg (k0, n0, x0)
          rw [h2] at this h0
          rw [← h1]
          simp only at this h0
          rw [h0]; exact this
    · rw [if_neg hj] at h1
      simp only [hj, if_false, Option.map_eq_map] at h2
      exact h.2.2 j e k m y h1 (by simpa using h2)
/-- What an operation that writes a map gives and leaves. -/
def OpM (P : Program) (ρ : Operand → AV) (op : Op) (H : AHeap) (sh : List (Nat × Nat)) (x : AV) (H' : AHeap) : Prop :=
  match op with
  | .mapUpdate t m k y | .insert t m k y => ∃ kt et v es clock id, mapO P t = some (kt, et) ∧ Maps.Keyed P kt ∧ keyV (ρ k) = some v ∧ vKey v = true ∧ (keyOf P kt v).isSome = true ∧ ρ m = .om id ∧ H[id]? = some (.map es clock) ∧ keysOk P kt es = true ∧ (∀ q ∈ sh, q.1 ≠ id ∧ q.2 ≠ id) ∧
      x = .d (.val undef) ∧ H' = H.set id (match findM v es 0 with | some (i, _) => .map (es.modify i fun q => (q.1, q.2.1, ρ y)) clock | none => .map (es ++ [(v, clock, ρ y)]) (clock + 1))
  | .mapEntry t m k => ∃ kt et z v es clock id, mapO P t = some (kt, et) ∧ Maps.Keyed P kt ∧ zvO P et = some z ∧ keyV (ρ k) = some v ∧ vKey v = true ∧ (keyOf P kt v).isSome = true ∧ ρ m = .om id ∧ H[id]? = some (.map es clock) ∧ keysOk P kt es = true ∧ (∀ q ∈ sh, q.1 ≠ id ∧ q.2 ≠ id) ∧
      match findM v es 0 with
      | some (i, y) => (∃ q, es[i]? = some q ∧ x = .tup [y, .d (.val (.int .i64 q.2.1))]) ∧ H' = H.set id (.map es clock)
      | none => x = .tup [z, .d (.val (.int .i64 clock))] ∧ H' = H.set id (.map (es ++ [(v, clock, z)]) (clock + 1))
  | .entryStore _ m s y => ∃ kd n es clock id i, ρ m = .om id ∧ H[id]? = some (.map es clock) ∧ (∀ q ∈ sh, q.1 ≠ id ∧ q.2 ≠ id) ∧ ρ s = .d (.val (.int kd n)) ∧ es.findIdx? (fun q => (q.2.1 : Int) == n) = some i ∧
      x = .d (.val undef) ∧ H' = H.set id (.map (es.modify i fun q => (q.1, q.2.1, ρ y)) clock)
  | _ => False
theorem om_rd {id : Nat} {u : Value} (h : Rd w pl own (.om id) u) {b base : Nat} (hp : pl[id]? = some (some (b, base))) : u = .map (some b) := by
  cases h with | om _ b' base' hp' => rw [hp] at hp'; cases hp'; rfl
theorem idx_eq {ms : Array MapEntry} {es : List (Value × Nat × AV)} (h : MapRd w pl own ms es) (n : Int) : ms.findIdx? (fun e => (e.born : Int) == n) = es.findIdx? (fun q => (q.2.1 : Int) == n) := by
  have harr : ∀ (p : MapEntry → Bool), ms.findIdx? p = ms.toList.findIdx? p := fun p => by obtain ⟨l⟩ := ms; simp
  rw [harr]
  have key : ∀ (l : List MapEntry) (m : List (Value × Nat × AV)), l.length = m.length → (∀ (j : Nat) (e : MapEntry) (q : Value × Nat × AV), l[j]? = some e → m[j]? = some q → e.born = q.2.1) → l.findIdx? (fun e => (e.born : Int) == n) = m.findIdx? (fun q => (q.2.1 : Int) == n) := by
    intro l
    induction l with
    | nil => intro m hl _; cases m with | nil => rfl | cons _ _ => simp at hl
    | cons e l ih =>
      intro m hl hb
      cases m with
      | nil => simp at hl
      | cons q m =>
        rw [List.findIdx?_cons, List.findIdx?_cons, hb 0 e q rfl rfl, ih m (by simpa using hl) fun j e q h1 h2 => hb (j + 1) e q h1 h2]
  exact key _ _ (by simpa using h.1) fun j e q h1 h2 => by
    obtain ⟨k, m, x⟩ := q
    exact (h.2.2 j e k m x (by simpa using h1) h2).2.1
theorem OpM_sound (h : RelS c τ H sh pl a w) {o : Oper} {x : AV} (hq : OpM P (evalA τ) o.op H sh x H') {K : Act → World → Prop} {Q : Exit → Act → World → Prop}
    (hK : ∀ v w', RelS c τ H' sh pl a w' → Rd w' pl (ownB c.E H' pl) x v → K (a.put o.dst v) w') : o.wp P a w K Q := by
  have upd : ∀ (t : TypeId) (m k y : Operand), OpM P (evalA τ) (.mapUpdate t m k y) H sh x H' → ∃ w', (Instr.mapUpdate t (a.eval m) (a.eval k) (a.eval y)).run P w = .ok () w' ∧ RelS c τ H' sh pl a w' ∧ Rd w' pl (ownB c.E H' pl) x undef := by
    intro t m k y hq
    obtain ⟨kt, et, v, es, clock, id, ht, K, hkv, hvk, hko, hm, hid, hks, hsh, rfl, rfl⟩ := hq
    have ev := h.eval m
    rw [hm] at ev
    have ek := keyV_rd hkv (h.eval k)
    obtain ⟨b, base, ms, hp, hg, hmr⟩ := h.h.obj _ _ hid
    have em := om_rd ev hp
    obtain ⟨lk, hlk⟩ := Option.isSome_iff_exists.1 hko
    rw [em, ek]
    rcases hmr.find K hks hvk hko w with ⟨h1, h2, h3⟩ | ⟨j, e, n, y', h1, h2, h3, h4, h5, h6, h7⟩
    · rw [h1]
      have hw := h.writeMap hid hp hg hsh (clock' := clock + 1) (hmr.push (n := clock) h3 (h.eval y))
      refine ⟨_, ?_, hw.1, .d _ _ (.val _)⟩
      simp [Instr.mapUpdate, run_underlying (mapO_spec ht), MapKept.run_getObj_map hg, K.check w _ hlk, h2, MapKept.run_setObj_map _ hg, Result.andThen, World.setMap]
    · rw [h1]
      have hw := h.writeMap hid hp hg hsh (clock' := clock) (hmr.modify j (fun e => { e with key := v, val := a.eval y }) (fun q => (q.1, q.2.1, evalA τ y)) (fun _ => rfl) (fun e' k' n' x' e1 e2 => by
        rw [h4] at e2; cases e2
        rw [h3] at e1; cases e1
        exact ⟨rfl, h6, h.eval y⟩))
      refine ⟨_, ?_, hw.1, .d _ _ (.val _)⟩
      have hst := K.stays w hlk
      simp [Instr.mapUpdate, run_underlying (mapO_spec ht), MapKept.run_getObj_map hg, K.check w _ hlk, h2, h3, h5, hst, MapKept.run_setObj_map _ hg, Result.andThen, World.setMap]
  obtain ⟨dst, op, ty, pos, after, guard⟩ := o
  simp only at hq hK
  cases op with
  | mapUpdate t m k y =>
    obtain ⟨w', h1, h2, h3⟩ := upd t m k y hq
    exact wp_skip' (by simp only [execOp, Sem.run_bind]; rw [h1]; rfl) (hK _ _ h2 h3)
  | insert t m k y =>
    obtain ⟨w', h1, h2, h3⟩ := upd t m k y hq
    exact wp_skip' (by simp only [execOp, Sem.run_bind]; rw [h1]; rfl) (hK _ _ h2 h3)
  | mapEntry t m k =>
    obtain ⟨kt, et, z, v, es, clock, id, ht, K, hz, hkv, hvk, hko, hm, hid, hks, hsh, hres⟩ := hq
    have ev := h.eval m
    rw [hm] at ev
    have ek := keyV_rd hkv (h.eval k)
    obtain ⟨b, base, ms, hp, hg, hmr⟩ := h.h.obj _ _ hid
    have em := om_rd ev hp
    obtain ⟨lk, hlk⟩ := Option.isSome_iff_exists.1 hko
    have two : ∀ (w : World) (own : Nat → Prop) (y : AV) (q : Value) (b : Int), Rd w pl own y q → Rd w pl own (.tup [y, .d (.val (.int .i64 b))]) (.tuple #[q, .int .i64 b]) := fun w own y q b hy => .tup _ _ rfl fun j x hj => by
      rcases j with _ | _ | j
      · cases hj; exact hy
      · cases hj; exact .d _ _ (.val _)
      · simp at hj
    rcases hmr.find K hks hvk hko w with ⟨h1, h2, h3⟩ | ⟨j, e, n, y', h1, h2, h3, h4, h5, h6, h7⟩
    · rw [h1] at hres
      obtain ⟨rfl, rfl⟩ := hres
      obtain ⟨zv, hzr, hzd⟩ := zvO_run hz w
      have hw := h.writeMap hid hp hg hsh (clock' := clock + 1) (hmr.push (n := clock) h3 (hzd _ _ _))
      refine wp_value (v := .tuple #[zv, goInt clock]) (w' := World.setMap w b (ms.push ⟨v, zv, clock⟩) (clock + 1)) ?_ (hK _ _ hw.1 (two _ _ _ _ _ (hzd _ _ _)))
      simp [execOp, em, ek, Instr.mapEntry, run_underlying (mapO_spec ht), MapKept.run_getObj_map hg, K.check w _ hlk, h2, hzr, MapKept.run_setObj_map _ hg, Result.andThen, World.setMap]
    · rw [h1] at hres
      obtain ⟨⟨q, hq, rfl⟩, rfl⟩ := hres
      rw [h4] at hq; cases hq
      have hmod := hmr.modify j (fun e => { e with key := v }) (fun q => q) (fun _ => rfl) (fun e' k' n' x' e1 e2 => by
        rw [h4] at e2; cases e2
        rw [h3] at e1; cases e1
        exact ⟨rfl, h6, h7⟩)
      rw [show es.modify j (fun q => q) = es from by
        apply List.ext_getElem?
        intro i
        rw [List.getElem?_modify]
        cases es[i]? <;> simp] at hmod
      have hw := h.writeMap hid hp hg hsh (clock' := clock) hmod
      have hst := K.stays w hlk
      refine wp_value (v := .tuple #[e.val, goInt e.born]) (w' := World.setMap w b (ms.modify j (fun e => { e with key := v })) clock) ?_ (hK _ _ hw.1 ?_)
      · simp [execOp, em, ek, Instr.mapEntry, run_underlying (mapO_spec ht), MapKept.run_getObj_map hg, K.check w _ hlk, h2, h3, h5, hst, MapKept.run_setObj_map _ hg, Result.andThen, World.setMap]
      · rw [← h6]
        exact two _ _ _ _ _ (hw.2 _ _ h7)
  | entryStore t m s y =>
    obtain ⟨kd, n, es, clock, id, i, hm, hid, hsh, hs, hidx, rfl, rfl⟩ := hq
    have ev := h.eval m
    rw [hm] at ev
    have es' := int_rd (hs ▸ h.eval s)
    obtain ⟨b, base, ms, hp, hg, hmr⟩ := h.h.obj _ _ hid
    have em := om_rd ev hp
    have hi : ms.findIdx? (fun e => (e.born : Int) == n) = some i := (idx_eq hmr n).trans hidx
    have hw := h.writeMap hid hp hg hsh (clock' := clock) (hmr.modify i (fun e => { e with val := a.eval y }) (fun q => (q.1, q.2.1, evalA τ y)) (fun _ => rfl) (fun e' k' n' x' e1 e2 => ⟨(hmr.2.2 i e' k' n' x' e1 e2).1, (hmr.2.2 i e' k' n' x' e1 e2).2.1, h.eval y⟩))
    refine wp_skip' (w' := World.setMap w b (ms.modify i (fun e => { e with val := a.eval y })) clock) ?_ (hK _ _ hw.1 (.d _ _ (.val _)))
    simp [execOp, em, es', Instr.entryStore, MapKept.run_getObj_map hg, asInt, asIntOf, hi, MapKept.run_setObj_map _ hg, Result.andThen, World.setMap]
  | _ => exact hq.elim
/-- A new map. -/
theorem makeMap_run (h : RelS c τ H sh pl a w) {n : Nat} (hn : H[n]? = some .free) (hsn : ∀ p ∈ sh, p.1 ≠ n ∧ p.2 ≠ n) (t : TypeId) (hint : Option Value) (hh : hint = none ∨ ∃ k m, hint = some (.int k m) ∧ (mapO P t).isSome = true) :
    (Instr.makeMap t hint).run P w = .ok (.map (some w.heap.size)) (w.alloc (.map #[] 0)) ∧ RelS c τ (H.set n (.map [] 0)) sh (pl.set n (some (w.heap.size, 0))) a (w.alloc (.map #[] 0)) ∧
      Rd (w.alloc (.map #[] 0)) (pl.set n (some (w.heap.size, 0))) (ownB c.E (H.set n (.map [] 0)) (pl.set n (some (w.heap.size, 0)))) (.om n) (.map (some w.heap.size)) := by
  have hpn := place_new h hn (some (w.heap.size, 0))
  refine ⟨?_, h.fresh hn hsn (.map #[] 0) (.map [] 0) ⟨w.heap.size, 0, #[], hpn, heap_alloc_new _ _, rfl, by simp, fun j e k n x hj => by simp at hj⟩, .om _ _ _ hpn⟩
  rcases hh with rfl | ⟨k, m, rfl, hm⟩
  · simp [Instr.makeMap, Result.andThen]
  · obtain ⟨⟨kt, et⟩, hm⟩ := Option.isSome_iff_exists.1 hm
    simp [Instr.makeMap, run_underlying (mapO_spec hm), asInt, asIntOf, Result.andThen]
end
end Go.Proofs.Ytfpcailbobjfnaa
