/- Of no program: operations that may change places, and the region's rule. -/
import Derived.Test.YtfpcailbobjfnaaA18
import Derived.Still
set_option linter.unusedVariables false
set_option linter.unusedSimpArgs false
namespace Go.Proofs.Ytfpcailbobjfnaa
open Go Go.RowKit
section
variable {P : Program} {c : Cx} {τ : Fr} {a : Act} {w w' : World} {pl pl' : List (Option (Nat × Nat))} {H H' H1 H2 : AHeap} {sh sh' sh1 sh2 : List (Nat × Nat)} {fr : List FuncId} {ops : List Oper} {N : Nat} {ρ ρ' : Operand → AV}
theorem lookH_congr (h : ∀ id, id < N → H[id]? = H'[id]?) : lookH H N = lookH H' N := by
  funext id
  unfold lookH
  split
  · rename_i hid; rw [h id hid]
  · rfl
theorem entriesOf_congr (h : ∀ id, id < N → H[id]? = H'[id]?) (m : AV) : entriesOf H N m = entriesOf H' N m := by
  unfold entriesOf
  split
  · rfl
  · split
    · rename_i hid; rw [h _ hid]
    · rfl
  · rfl
/-- Operations that look at no object. -/
def quiet : Op → Bool
  | .move _ | .assign _ | .pick .. | .fieldAddr .. | .field .. | .indexAddr .. | .index .. | .binOp .. | .unOp .. | .convert .. | .build .. | .extract .. | .nilCheck _ | .makeFunc .. => true
  | _ => false
theorem OpQ_quiet {op : Op} (h : quiet op = true) (H H' : AHeap) (x : AV) (hq : OpQ P N H ρ op x) : OpQ P N H' ρ op x := by
  cases op <;> first | exact hq | cases h
theorem OpQ_heap (h : ∀ id, id < N → H[id]? = H'[id]?) (op : Op) (x : AV) (hq : OpQ P N H ρ op x) : OpQ P N H' ρ op x := by
  unfold OpQ at hq ⊢
  split at hq
  all_goals try exact hq
  · unfold LoadQ at hq ⊢
    split at hq
    · exact hq
    · obtain ⟨g, k, h1, h2, h3, cs, h4, h5⟩ := hq
      exact ⟨g, k, h1, h2, h3, cs, (h _ h3) ▸ h4, h5⟩
    · exact hq
  · unfold SliceQ at hq ⊢
    split at hq
    · exact hq
    · exact hq
    · obtain ⟨n, e, s, l, h', cs, h1, h2, h3, h4⟩ := hq
      exact ⟨n, e, s, l, h', cs, h1, h2, (h _ h2) ▸ h3, h4⟩
    · exact hq
  · obtain ⟨kt, et, z, v, es, h1, h2, h3, h4, h5, h6, h7, h8⟩ := hq
    exact ⟨kt, et, z, v, es, h1, h2, h3, h4, h5, h6, (entriesOf_congr h _) ▸ h7, h8⟩
  · split at hq
    · obtain ⟨n, fi, ca, ds, h1, h2⟩ := hq
      exact ⟨n, fi, ca, ds, h1, by rw [← lookH_congr h]; exact h2⟩
    · exact hq
    · exact hq
/-- An operation that only lays an object. -/
theorem OpA_lay {op : Op} (hk : kOf fr op = 1) {n : Nat} {x : AV} (hq : OpA P true n ρ op H sh x H' sh') : ∃ o, H' = H.set n o ∧ sh' = sh ∧ ∀ H2 sh2, OpA P true n ρ op H2 sh2 x (H2.set n o) sh2 := by
  unfold OpA at hq
  split at hq
  · obtain ⟨cs, h1, h2, rfl, rfl⟩ := hq
    exact ⟨_, rfl, rfl, fun H2 sh2 => ⟨cs, h1, h2, rfl, rfl⟩⟩
  · obtain ⟨zs, h1, h2, h3, rfl, rfl⟩ := hq
    exact ⟨_, rfl, rfl, fun H2 sh2 => ⟨zs, h1, h2, h3, rfl, rfl⟩⟩
  · obtain ⟨e, s, zs, bts, k1, k2, m, m', he, hz, hl, h0, h1, hby, hm, hm', b0, b1, b2, b3, b4, rfl, rfl⟩ := hq
    exact ⟨_, rfl, rfl, fun H2 sh2 => ⟨e, s, zs, bts, k1, k2, m, m', he, hz, hl, h0, h1, hby, hm, hm', b0, b1, b2, b3, b4, rfl, rfl⟩⟩
  · obtain ⟨h1, h2, rfl, rfl⟩ := hq
    exact ⟨_, rfl, rfl, fun H2 sh2 => ⟨h1, h2, rfl, rfl⟩⟩
  · obtain ⟨e, s, zs, cs, he, hz, hl, h0, h1, hsm, hf, hc, rfl⟩ := hq
    rcases hc with ⟨h2, rfl⟩ | ⟨ds, h2, h3, h4, rfl⟩
    · exact ⟨_, rfl, rfl, fun H2 sh2 => ⟨e, s, zs, cs, he, hz, hl, h0, h1, hsm, hf, .inl ⟨h2, rfl⟩, rfl⟩⟩
    · exact ⟨_, rfl, rfl, fun H2 sh2 => ⟨e, s, zs, cs, he, hz, hl, h0, h1, hsm, hf, .inr ⟨ds, h2, h3, h4, rfl⟩, rfl⟩⟩
  · rename_i cl
    obtain ⟨callee, args, ts⟩ := cl
    simp only at hq
    split at hq
    · obtain ⟨f, fi, ca, ds, r, cs, hc, hds, hp, h1, rfl, rfl⟩ := hq
      exact ⟨_, rfl, rfl, fun H2 sh2 => ⟨f, fi, ca, ds, r, cs, hc, hds, hp, h1, rfl, rfl⟩⟩
    · cases hk
    · exact hq.elim
  · exact hq.elim
theorem baseOk_mem {al : List Nat} {k id off n : Nat} (h : baseOk N al (.os k id off n) = true) : id < N ∨ (id - N) ∈ al := by
  simpa [baseOk] using h
/-- An append: it looks at objects that it may look at. -/
theorem OpA_app {op : Op} (hk : kOf fr op = 3) {n : Nat} {x : AV} {al : List Nat} (ha : appOk N al ρ op) (hq : OpA P true n ρ op H sh x H' sh') : ∃ o, H' = H.set n o ∧ ((∀ p ∈ sh, p ∈ sh') ∧ ∀ p ∈ sh', p ∈ sh ∨ p.1 = n ∧ ((∃ cs, H[p.2]? = some (.cells cs)) ∨ ∃ q ∈ sh, q.2 = p.2)) ∧ ∀ H2, (∀ id, id < N ∨ (id - N) ∈ al → H[id]? = H2[id]?) → OpA P true n ρ op H2 sh x (H2.set n o) sh' := by
  unfold OpA at hq
  split at hq
  · cases hk
  · cases hk
  · cases hk
  · cases hk
  · cases hk
  · rename_i cl
    obtain ⟨callee, args, ts⟩ := cl
    simp only at hq
    split at hq
    · rename_i f
      cases f <;> simp only [kOf] at hk <;> first | (cases hk; done) | (split at hk <;> cases hk)
    · obtain ⟨args⟩ := args
      obtain ⟨ts⟩ := ts
      simp only at hq
      split at hq
      · rename_i s y t t'
        obtain ⟨rfl, e, k, zs, bts, m, l, he, hz, hl, hby, hs, hq⟩ := hq
        have hs1 : baseOk N al (ρ s) = true := ha s (by simp)
        have hy1 : baseOk N al (ρ y) = true := ha y (by simp)
        have hsrc : ∀ H2 : AHeap, (∀ id, id < N ∨ (id - N) ∈ al → H[id]? = H2[id]?) → SrcA H2 k (ρ y) m l := fun H2 hH => by
          unfold SrcA at hs ⊢
          split at hs
          · exact hs
          · rename_i e1
            obtain ⟨h1, cs, h2, h3, h4⟩ := hs
            rw [e1] at hy1
            exact ⟨h1, cs, (hH _ (baseOk_mem hy1)) ▸ h2, h3, h4⟩
          · exact hs
          · exact hs
        split at hq
        · rename_i k' id off q e3
          obtain ⟨cs, h1, h2, h3, h4, h5, h6, hsh, rfl, rfl⟩ := hq
          rw [e3] at hs1
          refine ⟨_, rfl, ⟨fun p hp => appSh_old hp, fun p hp => ?_⟩, fun H2 hH => ?_⟩
          · obtain ⟨p1, p2⟩ := p
            rcases mem_appSh hp with ⟨k1, k2⟩ | ⟨k1, k2⟩ | k
            · exact .inr ⟨k1, .inl ⟨cs, k2 ▸ h2⟩⟩
            · exact .inr ⟨k1, .inr ⟨_, k2, rfl⟩⟩
            · exact .inl k
          refine ⟨rfl, e, k, zs, bts, m, l, he, hz, hl, hby, hsrc H2 hH, ?_⟩
          rw [e3]
          exact ⟨cs, h1, (hH _ (baseOk_mem hs1)) ▸ h2, h3, h4, h5, h6, hsh, rfl, rfl⟩
        · rename_i e3
          obtain ⟨h1, h2, h3, rfl, rfl⟩ := hq
          refine ⟨_, rfl, ⟨fun p hp => hp, fun p hp => .inl hp⟩, fun H2 hH => ?_⟩
          refine ⟨rfl, e, k, zs, bts, m, l, he, hz, hl, hby, hsrc H2 hH, ?_⟩
          rw [e3]
          exact ⟨h1, h2, h3, rfl, rfl⟩
        · exact hq.elim
      · exact hq.elim
    · exact hq.elim
  · exact hq.elim
theorem OpD_one {op : Op} {N1 : Nat} (hq : OpD P ρ op H sh N1 H') : ∃ id o cs, N1 ≤ id ∧ H[id]? = some (.cells cs) ∧ H' = H.set id o ∧ ∀ H2, H2[id]? = H[id]? → OpD P ρ op H2 sh N1 (H2.set id o) := by
  unfold OpD at hq
  split at hq
  · obtain ⟨id, i, cs, l, h1, h2, h3, h4, h5, h6, h7, rfl⟩ := hq
    exact ⟨id, _, cs, h7, h2, rfl, fun H2 hH => ⟨id, i, cs, l, h1, hH.trans h2, h3, h4, h5, h6, h7, rfl⟩⟩
  · exact hq.elim
/-- A map is asked for a key, and then an entry for the key is made: in whichever order. -/
def lookEntry : Op → Op → Bool
  | .lookup t (.tmp m) (.tmp k) false, .mapEntry t' (.tmp m') (.tmp k') => t == t' && m == m' && k == k'
  | _, _ => false
theorem findM_push {v : Value} (hv : vKey v = true) (n : Nat) (z : AV) : ∀ (es : List (Value × Nat × AV)) (i : Nat), findM v es i = none → findM v (es ++ [(v, n, z)]) i = some (i + es.length, z)
  | [], i, _ => by simp [findM, vEq_self hv]
  | e :: l, i, h => by
    unfold findM at h
    split at h
    · cases h
    · rename_i hne
      rw [List.cons_append, findM, if_neg hne, findM_push hv n z l (i + 1) h, List.length_cons]
      congr 2; omega
theorem keysOk_push {kt : TypeId} {es : List (Value × Nat × AV)} {v : Value} {n : Nat} {z : AV} (h : keysOk P kt es = true) (hv : (keyOf P kt v).isSome = true) : keysOk P kt (es ++ [(v, n, z)]) = true := by
  unfold keysOk at h ⊢
  rw [List.all_append, h]
  simp [hv]
theorem lookEntry_comm {oi oj : Op} (h : lookEntry oi oj = true) {xi xj : AV} (h1 : OpQ P N H ρ oi xi) (h2 : OpM P ρ oj H sh xj H') : OpQ P N H' ρ oi xi := by
  unfold lookEntry at h
  split at h
  · rename_i t m k t' m' k'
    simp only [Bool.and_eq_true, beq_iff_eq] at h
    obtain ⟨⟨rfl, rfl⟩, rfl⟩ := h
    obtain ⟨kt, et, z, v, es, a1, a2, a3, a4, a5, a6, a7, a8, rfl⟩ := h1
    obtain ⟨kt', et', z', v', es', clock, id, b1, b2, b3, b4, b5, b6, b7, b8, b9, b10, b11⟩ := h2
    rw [a1] at b1; cases b1
    rw [a3] at b3; cases b3
    rw [a4] at b4; cases b4
    have hlt := (List.getElem?_eq_some_iff.1 b8).1
    rw [b7] at a7
    unfold entriesOf at a7
    simp only at a7
    split at a7
    · rename_i hid
      rw [b8] at a7
      cases a7
      cases hf : findM v es 0 with
      | none =>
        rw [hf] at b11
        obtain ⟨_, rfl⟩ := b11
        refine ⟨kt, et, z, v, es ++ [(v, clock, z)], a1, a2, a3, a4, a5, a6, ?_, keysOk_push a8 a6, ?_⟩
        · rw [b7]; unfold entriesOf; simp only [if_pos hid, List.getElem?_set_self hlt]
        · rw [findM_push a5 clock z es 0 hf]; rfl
      | some p =>
        obtain ⟨i, y⟩ := p
        rw [hf] at b11
        obtain ⟨_, rfl⟩ := b11
        refine ⟨kt, et, z, v, es, a1, a2, a3, a4, a5, a6, ?_, a8, by rw [hf]⟩
        rw [b7]; unfold entriesOf; simp only [if_pos hid, List.getElem?_set_self hlt]
    · cases a7
  · cases h
/-- Which two operations may change places, where neither waits for the other. -/
def commB (fr : List FuncId) (ops : List Oper) (i j : Nat) (oi oj : Oper) : Bool :=
  oi.apart ops.toArray oj && rkOf fr ops i != rkOf fr ops j || oi.apart ops.toArray oj && (kOf fr oi.op == 0 || kOf fr oj.op == 0)
def kindB (fr : List FuncId) (ops : List Oper) (i j : Nat) (oi oj : Oper) : Bool :=
  match kOf fr oi.op, kOf fr oj.op with
  | 0, 2 => freshSt ops oj
  | 2, 0 => freshSt ops oi
  | 0, 4 => quiet oi.op || lookEntry oi.op oj.op
  | 4, 0 => quiet oj.op
  | 0, _ => true
  | _, 0 => true
  | 1, 1 => rkOf fr ops i != rkOf fr ops j
  | 1, 3 => rkOf fr ops i != rkOf fr ops j && !(alOf fr ops oj).contains (rkOf fr ops i)
  | 3, 1 => rkOf fr ops i != rkOf fr ops j && !(alOf fr ops oi).contains (rkOf fr ops j)
  | _, _ => false
theorem kOf_le (fr : List FuncId) (op : Op) : kOf fr op = 0 ∨ kOf fr op = 1 ∨ kOf fr op = 2 ∨ kOf fr op = 3 ∨ kOf fr op = 4 := by
  unfold kOf
  split
  all_goals first | (simp; done) | (split <;> simp)
theorem eff_comm {i j : Nat} {oi oj : Oper} {bi bj : Bool} (hk : kindB fr ops i j oi oj = true) {xi xj : AV} (h1 : eff P fr ops N i oi bi ρ H sh xi H1 sh1) (h2 : eff P fr ops N j oj bj ρ H1 sh1 xj H2 sh2) :
    ∃ H3 sh3, eff P fr ops N j oj bj ρ H sh xj H3 sh3 ∧ eff P fr ops N i oi bi ρ H3 sh3 xi H2 sh2 := by
  cases bi with
  | false =>
    simp only [eff, Bool.false_eq_true, if_false] at h1
    obtain ⟨rfl, rfl, rfl⟩ := h1
    exact ⟨_, _, h2, by simp only [eff, Bool.false_eq_true, if_false]; exact ⟨trivial, trivial, trivial⟩⟩
  | true =>
    cases bj with
    | false =>
      simp only [eff, Bool.false_eq_true, if_false] at h2
      obtain ⟨rfl, rfl, rfl⟩ := h2
      exact ⟨_, _, by simp only [eff, Bool.false_eq_true, if_false]; exact ⟨trivial, trivial, trivial⟩, h1⟩
    | true =>
      simp only [eff, if_true] at h1 h2 ⊢
      unfold kindB at hk
      have far : ∀ (H : AHeap) (n : Nat) (o : AObj), N ≤ n → ∀ id, id < N → H[id]? = (H.set n o)[id]? := fun H n o hn id hid => (set_ne (show id ≠ n by omega)).symm
      rcases kOf_le fr oi.op with ki | ki | ki | ki | ki <;> rcases kOf_le fr oj.op with kj | kj | kj | kj | kj <;> simp only [ki, kj] at hk h1 h2 ⊢
      -- looks, looks
      · obtain ⟨q1, rfl, rfl⟩ := h1
        obtain ⟨q2, rfl, rfl⟩ := h2
        exact ⟨_, _, ⟨q2, rfl, rfl⟩, q1, rfl, rfl⟩
      -- looks, lays
      · obtain ⟨q1, rfl, rfl⟩ := h1
        obtain ⟨f1, f2, f3, q2⟩ := h2
        obtain ⟨o, rfl, rfl, _⟩ := OpA_lay kj q2
        exact ⟨_, _, ⟨f1, f2, f3, q2⟩, OpQ_heap (far _ _ _ (Nat.le_add_right _ _)) _ _ q1, rfl, rfl⟩
      -- looks, writes
      · obtain ⟨q1, rfl, rfl⟩ := h1
        obtain ⟨q2, rfl, rfl⟩ := h2
        rw [if_pos hk] at q2
        obtain ⟨id, o, cs, hle, _, rfl, _⟩ := OpD_one q2
        exact ⟨_, _, ⟨by rw [if_pos hk]; exact q2, rfl, rfl⟩, OpQ_heap (far _ _ _ hle) _ _ q1, rfl, rfl⟩
      -- looks, appends
      · obtain ⟨q1, rfl, rfl⟩ := h1
        obtain ⟨f1, f2, f3, q2⟩ := h2
        obtain ⟨o, rfl, _, _⟩ := OpA_app kj f3 q2
        exact ⟨_, _, ⟨f1, f2, f3, q2⟩, OpQ_heap (far _ _ _ (Nat.le_add_right _ _)) _ _ q1, rfl, rfl⟩
      -- looks, writes a map
      · obtain ⟨q1, rfl, rfl⟩ := h1
        obtain ⟨q2, rfl⟩ := h2
        rcases Bool.or_eq_true_iff.1 hk with hk | hk
        · exact ⟨_, _, ⟨q2, rfl⟩, OpQ_quiet hk _ _ _ q1, rfl, rfl⟩
        · exact ⟨_, _, ⟨q2, rfl⟩, lookEntry_comm hk q1 q2, rfl, rfl⟩
      -- lays, looks
      · obtain ⟨f1, f2, f3, q1⟩ := h1
        obtain ⟨o, rfl, rfl, q3⟩ := OpA_lay ki q1
        obtain ⟨q2, rfl, rfl⟩ := h2
        exact ⟨_, _, ⟨OpQ_heap (fun id hid => (far _ _ _ (Nat.le_add_right _ _) id hid).symm) _ _ q2, rfl, rfl⟩, f1, f2, f3, q1⟩
      -- lays, lays
      · obtain ⟨f1, f2, f3, q1⟩ := h1
        obtain ⟨o, rfl, rfl, q3⟩ := OpA_lay ki q1
        obtain ⟨g1, g2, g3, q2⟩ := h2
        obtain ⟨o', rfl, rfl, q4⟩ := OpA_lay kj q2
        have hne : N + rkOf fr ops i ≠ N + rkOf fr ops j := by simp only [bne_iff_ne, ne_eq] at hk; omega
        rw [set_ne hne.symm] at g1
        refine ⟨_, _, ⟨g1, g2, g3, q4 _ _⟩, by rw [set_ne hne]; exact f1, f2, f3, ?_⟩
        rw [List.set_comm _ _ hne]
        exact q3 _ _
      · cases hk
      -- lays, appends
      · obtain ⟨f1, f2, f3, q1⟩ := h1
        obtain ⟨o, rfl, rfl, q3⟩ := OpA_lay ki q1
        obtain ⟨g1, g2, g3, q2⟩ := h2
        simp only [Bool.and_eq_true, bne_iff_ne, ne_eq, Bool.not_eq_true', List.contains_eq_mem, decide_eq_false_iff_not] at hk
        have hne : N + rkOf fr ops i ≠ N + rkOf fr ops j := by omega
        obtain ⟨o', rfl, hsub, q4⟩ := OpA_app kj g3 q2
        rw [set_ne hne.symm] at g1
        have hq := q4 H fun id hid => set_ne (fun e => by
          rcases hid with hid | hid
          · omega
          · rw [e, Nat.add_sub_cancel_left] at hid; exact hk.2 hid)
        refine ⟨_, _, ⟨g1, g2, g3, hq⟩, by rw [set_ne hne]; exact f1, ?_, f3, ?_⟩
        · intro p hp
          obtain ⟨_, _, ⟨_, hnew⟩, _⟩ := OpA_app kj g3 hq
          rcases hnew p hp with h | ⟨h3, ⟨cs, h4⟩ | ⟨q, h4, h5⟩⟩
          · exact f2 p h
          · exact ⟨by rw [h3]; exact hne.symm, fun e => by rw [e, f1] at h4; cases h4⟩
          · exact ⟨by rw [h3]; exact hne.symm, by rw [← h5]; exact (f2 q h4).2⟩
        · rw [List.set_comm _ _ hne]
          exact q3 _ _
      · cases hk
      -- writes, looks
      · obtain ⟨q1, rfl, rfl⟩ := h1
        obtain ⟨q2, rfl, rfl⟩ := h2
        rw [if_pos hk] at q1
        obtain ⟨id, o, cs, hle, _, rfl, _⟩ := OpD_one q1
        exact ⟨_, _, ⟨OpQ_heap (fun id' hid => (far _ _ _ hle id' hid).symm) _ _ q2, rfl, rfl⟩, by rw [if_pos hk]; exact q1, rfl, rfl⟩
      · cases hk
      · cases hk
      · cases hk
      · cases hk
      -- appends, looks
      · obtain ⟨f1, f2, f3, q1⟩ := h1
        obtain ⟨o, rfl, _, q3⟩ := OpA_app ki f3 q1
        obtain ⟨q2, rfl, rfl⟩ := h2
        exact ⟨_, _, ⟨OpQ_heap (fun id hid => (far _ _ _ (Nat.le_add_right _ _) id hid).symm) _ _ q2, rfl, rfl⟩, f1, f2, f3, q1⟩
      -- appends, lays
      · obtain ⟨f1, f2, f3, q1⟩ := h1
        obtain ⟨o, rfl, hsub, q3⟩ := OpA_app ki f3 q1
        obtain ⟨g1, g2, g3, q2⟩ := h2
        obtain ⟨o', rfl, rfl, q4⟩ := OpA_lay kj q2
        simp only [Bool.and_eq_true, bne_iff_ne, ne_eq, Bool.not_eq_true', List.contains_eq_mem, decide_eq_false_iff_not] at hk
        have hne : N + rkOf fr ops i ≠ N + rkOf fr ops j := by omega
        rw [set_ne hne.symm] at g1
        have hq := q3 (H.set (N + rkOf fr ops j) o') fun id hid => (set_ne (fun e => by
          rcases hid with hid | hid
          · omega
          · rw [e, Nat.add_sub_cancel_left] at hid; exact hk.2 hid)).symm
        refine ⟨_, _, ⟨g1, fun p hp => g2 p (hsub.1 p hp), g3, q4 _ _⟩, by rw [set_ne hne]; exact f1, f2, f3, ?_⟩
        rw [List.set_comm _ _ hne]
        exact hq
      · cases hk
      · cases hk
      · cases hk
      -- writes a map, looks
      · obtain ⟨q1, rfl⟩ := h1
        obtain ⟨q2, rfl, rfl⟩ := h2
        exact ⟨_, _, ⟨OpQ_quiet hk _ _ _ q2, rfl, rfl⟩, q1, rfl⟩
      · cases hk
      · cases hk
      · cases hk
      · cases hk
theorem stepA_comm {i j : Nat} {oi oj : Oper} (hi : ops[i]? = some oi) (hj : ops[j]? = some oj) (hap : oi.apart ops.toArray oj = true) (hk : kindB fr ops i j oi oj = true) {σ σ1 σ2 : St} (h1 : stepA P fr ops N i σ σ1) (h2 : stepA P fr ops N j σ1 σ2) : ∃ σ3, stepA P fr ops N j σ σ3 ∧ stepA P fr ops N i σ3 σ2 := by
  obtain ⟨p1, p2, p3⟩ := Oper.apart_spec hap
  obtain ⟨o, bi, xi, H1, sh1, e1, g1, h1, rfl⟩ := h1
  rw [hi] at e1; cases e1
  obtain ⟨o, bj, xj, H2, sh2, e2, g2, h2, rfl⟩ := h2
  rw [hj] at e2; cases e2
  simp only at g2 h2 ⊢
  rw [guardA_put p1] at g2
  have c1 : ∀ (y : Operand), y ∈ oj.op.operands → evalA (σ.τ.put oi.dst xi) y = evalA σ.τ y := fun y hy => evalA_put fun t ht e => p1 t ht (looks_mem (e ▸ hy))
  have c2 : ∀ (y : Operand), y ∈ oi.op.operands → evalA (σ.τ.put oj.dst xj) y = evalA σ.τ y := fun y hy => evalA_put fun t ht e => p3 t ht (looks_mem (e ▸ hy))
  have conv : ∀ (k : Nat) (o : Oper) (b : Bool) (ρ ρ' : Operand → AV) (H : AHeap) (sh : List (Nat × Nat)) (x : AV) (H' : AHeap) (sh' : List (Nat × Nat)), (∀ y ∈ o.op.operands, ρ y = ρ' y) → eff P fr ops N k o b ρ H sh x H' sh' → eff P fr ops N k o b ρ' H sh x H' sh' := by
    intro k o b ρ ρ' H sh x H' sh' h he
    unfold eff at he ⊢
    rw [OpQ_congr (P := P) (fun y hy => (h y hy).symm), OpD_congr (P := P) (fun y hy => (h y hy).symm), OpM_congr (P := P) (fun y hy => (h y hy).symm), OpA_congr (P := P) (fun y hy => (h y hy).symm), appOk_congr (fun y hy => (h y hy).symm)]
    exact he
  obtain ⟨H3, sh3, q1, q2⟩ := eff_comm hk h1 (conv _ _ _ _ _ _ _ _ _ _ c1 h2)
  refine ⟨⟨σ.τ.put oj.dst xj, H3, sh3⟩, ⟨oj, bj, xj, H3, sh3, hj, g2, q1, rfl⟩, oi, bi, xi, H2, sh2, hi, ?_, conv _ _ _ _ _ _ _ _ _ _ (fun y hy => (c2 y hy).symm) q2, ?_⟩
  · simp only
    rw [guardA_put p3]; exact g1
  · simp only
    rw [put_comm p2]
/-- Operation j waits for operation i, at one remove or two. -/
def wait2 (ops : List Oper) (j i : Nat) : Bool :=
  match ops[j]? with
  | none => false
  | some oj => oj.after.any (fun e => Region.binds .any e && e.on == i) || oj.after.any fun e => Region.binds .any e && match ops[e.on]? with
    | some ok => ok.after.any fun e' => Region.binds .any e' && e'.on == i
    | none => false
def Closed (ops : List Oper) (listed : Array Bool) : Prop := ∀ (k : Nat) (o : Oper), ops[k]? = some o → listed.getD k false = true → ∀ e ∈ o.after, Region.binds .any e = true → listed.getD e.on false = true
theorem getD_true_false {listed : Array Bool} {k : Nat} (h : listed.getD k false = true) : listed.getD k true = true := by
  by_cases hk : k < listed.size
  · simp only [Array.getD, dif_pos hk] at h ⊢; exact h
  · simp [Array.getD, hk] at h
theorem Closed.set {listed : Array Bool} (h : Closed ops listed) {j : Nat} (hj : j ∈ Region.ready .any ops.toArray listed) : Closed ops (listed.setIfInBounds j true) := by
  obtain ⟨_, oj, hoj, hall⟩ := mem_ready.1 hj
  intro k o ho hk e he hb
  by_cases hkj : j = k
  · subst hkj
    rw [List.getElem?_toArray, ho] at hoj
    cases hoj
    exact getD_set_true (hall e he hb)
  · rw [getD_set_ne false hkj] at hk
    exact getD_set_true (h k o ho hk e he hb)
theorem not_wait {listed : Array Bool} (hc : Closed ops listed) {i j : Nat} (hi : listed.getD i true = false) (hj : j ∈ Region.ready .any ops.toArray listed) : wait2 ops j i = false := by
  obtain ⟨_, oj, hoj, hall⟩ := mem_ready.1 hj
  rw [List.getElem?_toArray] at hoj
  have hno : listed.getD i false = true → False := fun h => by rw [getD_true_false h] at hi; cases hi
  cases hw : wait2 ops j i with
  | false => rfl
  | true =>
    exfalso
    unfold wait2 at hw
    rw [hoj] at hw
    simp only [Bool.or_eq_true, Array.any_eq_true', Bool.and_eq_true, beq_iff_eq] at hw
    rcases hw with ⟨e, he, hb, hon⟩ | ⟨e, he, hb, hw⟩
    · exact hno (hon ▸ hall e he hb)
    · split at hw
      · rename_i ok hok
        simp only [Array.any_eq_true', Bool.and_eq_true, beq_iff_eq] at hw
        obtain ⟨e', he', hb', hon⟩ := hw
        exact hno (hon ▸ hc _ ok hok (hall e he hb) e' he' hb')
      · cases hw
theorem AnyA_first {K : St → Prop} {i : Nat} {oi : Oper} (hi : ops[i]? = some oi) :
    ∀ (fuel : Nat) (listed : Array Bool) (σ σ1 : St), Closed ops listed → (∀ j oj, ops[j]? = some oj → j ≠ i → listed.getD j true = false → wait2 ops j i = false → oi.apart ops.toArray oj = true ∧ kindB fr ops i j oi oj = true) →
      i ∈ Region.ready .any ops.toArray listed → stepA P fr ops N i σ σ1 → AnyA P fr ops N K fuel (listed.setIfInBounds i true) σ1 → AnyA P fr ops N K (fuel + 1) listed σ := by
  intro fuel
  induction fuel with
  | zero =>
    intro listed σ σ1 hcl hfree hr h1 H
    refine ⟨fun h => (by rw [h] at hr; cases hr), fun j hj => ?_⟩
    by_cases hji : j = i
    · subst hji; exact ⟨σ1, h1, H⟩
    · have := ready_mono hj hji
      rw [H.1] at this
      cases this
  | succ fuel ih =>
    intro listed σ σ1 hcl hfree hr h1 H
    refine ⟨fun h => (by rw [h] at hr; cases hr), fun j hj => ?_⟩
    by_cases hji : j = i
    · subst hji; exact ⟨σ1, h1, H⟩
    · obtain ⟨σ2, h2, H2⟩ := H.2 j (ready_mono hj hji)
      obtain ⟨hjun, oj, hoj, _⟩ := mem_ready.1 hj
      rw [List.getElem?_toArray] at hoj
      have hiun := (mem_ready.1 hr).1
      obtain ⟨hap, hk⟩ := hfree j oj hoj hji hjun (not_wait hcl hiun hj)
      obtain ⟨σ3, h3, h4⟩ := stepA_comm hi hoj hap hk h1 h2
      refine ⟨σ3, h3, ih (listed.setIfInBounds j true) σ3 σ2 (hcl.set hj) (fun k ok hk hki hun hno => hfree k ok hk hki ?_ hno) (ready_mono hr (Ne.symm hji)) h4 ?_⟩
      · by_cases hjk : j = k
        · subst hjk; exact hjun
        · rw [getD_set_ne true hjk] at hun; exact hun
      · rw [Array.setIfInBounds_comm _ _ hji]; exact H2
def freeC (fr : List FuncId) (ops : List Oper) (listed : Array Bool) (i : Nat) : Bool :=
  match ops[i]? with
  | none => false
  | some oi => (List.range ops.length).all fun j => j == i || listed.getD j true || wait2 ops j i || match ops[j]? with
    | some oj => oi.apart ops.toArray oj && kindB fr ops i j oi oj
    | none => true
def lexC (fr : List FuncId) (ops : List Oper) : Nat → Nat → Array Bool → Bool
  | 0, _, listed => (Region.ready .any ops.toArray listed).isEmpty
  | fuel + 1, k, listed => (Region.ready .any ops.toArray listed).contains k && freeC fr ops listed k && lexC fr ops fuel (k + 1) (listed.setIfInBounds k true)
/-- In the order of the text. -/
def runD (P : Program) (fr : List FuncId) (ops : List Oper) (N : Nat) : Nat → List Oper → Fr → AHeap → List (Nat × Nat) → (Fr → AHeap → List (Nat × Nat) → Prop) → Prop
  | _, [], τ, H, sh, K => K τ H sh
  | i, o :: l, τ, H, sh, K => ∃ b, guardA ops τ o = some b ∧ (b = true → ∃ x H' sh', eff P fr ops N i o true (evalA τ) H sh x H' sh' ∧ runD P fr ops N (i + 1) l (τ.put o.dst x) H' sh' K) ∧ (b = false → runD P fr ops N (i + 1) l (τ.put o.dst (.d (.val undef))) H sh K)
theorem AnyA_lex {K : Fr → AHeap → List (Nat × Nat) → Prop} : ∀ (l : List Oper) (k : Nat) (listed : Array Bool) (τ : Fr) (H : AHeap) (sh : List (Nat × Nat)), (∀ j, l[j]? = ops[k + j]?) → Closed ops listed → lexC fr ops l.length k listed = true → runD P fr ops N k l τ H sh K →
    AnyA P fr ops N (fun σ => K σ.τ σ.H σ.sh) l.length listed ⟨τ, H, sh⟩
  | [], _, _, _, _, _, _, _, hB, h => ⟨by simpa [lexC] using hB, h⟩
  | o :: l, k, listed, τ, H, sh, hl, hcl, hB, h => by
    have h0 : ops[k]? = some o := by simpa using (hl 0).symm
    simp only [List.length_cons, lexC, Bool.and_eq_true] at hB
    obtain ⟨⟨hr, hf⟩, hB'⟩ := hB
    have hr' : k ∈ Region.ready .any ops.toArray listed := by simpa using hr
    have hfree : ∀ j oj, ops[j]? = some oj → j ≠ k → listed.getD j true = false → wait2 ops j k = false → o.apart ops.toArray oj = true ∧ kindB fr ops k j o oj = true := by
      intro j oj hj hne hun hno
      unfold freeC at hf
      rw [h0] at hf
      simp only [List.all_eq_true, List.mem_range] at hf
      have h1 := hf j (List.getElem?_eq_some_iff.1 hj).1
      simp only [hj, Bool.or_eq_true, beq_iff_eq, hne, false_or, hun, Bool.false_eq_true, hno, Bool.and_eq_true] at h1
      exact h1
    obtain ⟨b, hg, ht, hfa⟩ := h
    have hrest : ∀ τ' H' sh', runD P fr ops N (k + 1) l τ' H' sh' K → AnyA P fr ops N (fun σ => K σ.τ σ.H σ.sh) l.length (listed.setIfInBounds k true) ⟨τ', H', sh'⟩ := fun τ' H' sh' hh =>
      AnyA_lex l (k + 1) _ τ' H' sh' (fun j => by have := hl (j + 1); simpa [Nat.add_assoc, Nat.add_comm 1 j] using this) (hcl.set hr') hB' hh
    cases b with
    | true =>
      obtain ⟨x, H', sh', he, hh⟩ := ht rfl
      exact AnyA_first h0 _ _ _ _ hcl hfree hr' ⟨o, true, x, H', sh', h0, hg, he, rfl⟩ (hrest _ _ _ hh)
    | false => exact AnyA_first h0 _ _ _ _ hcl hfree hr' ⟨o, false, _, H, sh, h0, hg, by simp only [eff, Bool.false_eq_true, if_false]; exact ⟨trivial, trivial, trivial⟩, rfl⟩ (hrest _ _ _ (hfa rfl))
def killAll : List (Nat × Nat) → AHeap → AHeap
  | [], H => H
  | p :: l, H => killAll l (H.set p.2 .dead)
theorem R.killAll : ∀ (l sh : List (Nat × Nat)) (H : AHeap), (∀ p ∈ sh, p ∈ l) → R c τ H sh a w → R c τ (killAll l H) [] a w
  | [], sh, H, hs, hR => by
    have : sh = [] := List.eq_nil_iff_forall_not_mem.2 fun p hp => by cases hs p hp
    subst this; exact hR
  | p :: l, sh, H, hs, ⟨pl, hR⟩ => by
    refine R.killAll l (sh.filter fun q => decide (q.1 ≠ p.2) && decide (q.2 ≠ p.2)) _ (fun q hq => ?_) ⟨pl, hR.kill p.2 (fun i j hm h1 h2 => ?_) (fun q hq => ?_)⟩
    · obtain ⟨h1, h2⟩ := List.mem_filter.1 hq
      simp only [Bool.and_eq_true, decide_eq_true_eq] at h2
      rcases List.mem_cons.1 (hs q h1) with h | h
      · subst h; exact absurd rfl h2.2
      · exact h
    · exact List.mem_filter.2 ⟨hm, by simp [h1, h2]⟩
    · exact (List.mem_filter.1 hq).1
theorem R.reserve : ∀ (n : Nat) (H : AHeap), R c τ H sh a w → R c τ (H ++ List.replicate n .free) sh a w
  | 0, H, hR => by simpa using hR
  | n + 1, H, ⟨pl, hR⟩ => by
    have := R.reserve n (H ++ [.free]) ⟨_, hR.reserve⟩
    rwa [List.append_assoc, List.singleton_append, ← List.replicate_succ] at this
/-- A region that draws its order. -/
theorem awp_draw {Q : Exit → Fr → AHeap → Prop} {id : Nat} (fr : List FuncId) (hm : P.follows .mixedOrders = true) (hd : dstOk c.nt ops = true) (hB : lexC fr ops ops.length 0 (Array.replicate ops.length false) = true)
    (h : runD P fr ops H.length 0 ops τ (H ++ List.replicate (ops.countP (lays fr)) .free) [] fun τ' H' sh' => Q .normal τ' (killAll sh' H')) : AWp P c (.region id ops.toArray true) Q τ H := fun a w hR => by
  refine wp_region_any hm ?_
  have hR' : R c τ (H ++ List.replicate (ops.countP (lays fr)) .free) [] a { w with drawn := w.drawn + 1 } := R.reserve _ _ (by obtain ⟨pl, h⟩ := hR; exact ⟨pl, h.drew⟩)
  have hA := AnyA_lex (P := P) (N := H.length) ops 0 (Array.replicate ops.length false) τ _ [] (fun j => by simp) (fun k o ho hk => by
    have hlt := (List.getElem?_eq_some_iff.1 ho).1
    simp [Array.getD, hlt] at hk) hB h
  have := AnyA_sound (c := c) hd (K := fun σ => Q .normal σ.τ (killAll σ.sh σ.H)) (Q := fun e a' w' => ∃ τ' H', R c τ' H' [] a' w' ∧ Q e τ' H') (fun σ a' w' hk hr => ⟨_, _, R.killAll σ.sh σ.sh _ (fun p hp => hp) hr, hk⟩) ops.length _ _ _ _ hA hR'
  simpa using this
end
end Go.Proofs.Ytfpcailbobjfnaa
