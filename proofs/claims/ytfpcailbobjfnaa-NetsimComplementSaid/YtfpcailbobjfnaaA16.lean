/- Of no program: every operation of the abstract machine, carried out. -/
import Derived.Test.YtfpcailbobjfnaaAN
set_option linter.unusedVariables false
set_option linter.unusedSimpArgs false
namespace Go.Proofs.Ytfpcailbobjfnaa
open Go Go.RowKit
section
variable {P : Program} {c : Cx} {τ : Fr} {a : Act} {w w' : World} {pl pl' : List (Option (Nat × Nat))} {H H' : AHeap} {sh sh' : List (Nat × Nat)} {own : Nat → Prop}
theorem cmp_slice {t e : TypeId} (hu : P.underlying t = some (.slice e)) (ad : Addr) (n n' c c' : Nat) (x y : Operand) {op : BinOp} (hop : op = .eql ∨ op = .neq) : (do eqGuard op t x y (.slice (some ad) n c) (.slice none n' c'); binOp op t (.slice (some ad) n c) (.slice none n' c') : Sem Value).run P w = .ok (.bool (op == .neq)) w := by
  have h : (Op.equal t (.slice (some ad) n c) (.slice none n' c')).run P w = .ok false w := equal_slice (by unfold isSliceT; rw [hu]) _ _ _ _ _ w
  rw [Sem.run_bind, eqGuard_slice]
  rcases hop with rfl | rfl <;> simp [binOp, h]
theorem cmp_ptr {t e : TypeId} (hu : P.underlying t = some (.pointer e)) (ad : Addr) (x y : Operand) {op : BinOp} (hop : op = .eql ∨ op = .neq) : (do eqGuard op t x y (.pointer (some ad)) (.pointer none); binOp op t (.pointer (some ad)) (.pointer none) : Sem Value).run P w = .ok (.bool (op == .neq)) w := by
  have h : (Op.equalIn (9999 + 1) t (.pointer (some ad)) (.pointer none)).run P w = .ok false w := by
    unfold Op.equalIn; simp [run_underlying hu]
  have h : (Op.equal t (.pointer (some ad)) (.pointer none)).run P w = .ok false w := h
  have hg : (eqGuard op t x y (.pointer (some ad)) (.pointer none)).run P w = .ok () w := by
    unfold eqGuard; split <;> simp
  rw [Sem.run_bind, hg]
  rcases hop with rfl | rfl <;> simp [binOp, h]
theorem cmp_map {t k e : TypeId} (hu : P.underlying t = some (.map k e)) (b : Nat) (x y : Operand) {op : BinOp} (hop : op = .eql ∨ op = .neq) : (do eqGuard op t x y (.map (some b)) (.map none); binOp op t (.map (some b)) (.map none) : Sem Value).run P w = .ok (.bool (op == .neq)) w := by
  have h : (Op.equalIn (9999 + 1) t (.map (some b)) (.map none)).run P w = .ok false w := by
    unfold Op.equalIn; simp [run_underlying hu]
  have h : (Op.equal t (.map (some b)) (.map none)).run P w = .ok false w := h
  have hg : (eqGuard op t x y (.map (some b)) (.map none)).run P w = .ok () w := by
    unfold eqGuard; split <;> simp
  rw [Sem.run_bind, hg]
  rcases hop with rfl | rfl <;> simp [binOp, h]
theorem nilC_run {op : BinOp} {t : TypeId} {y z : Operand} {b : Bool} (hb : nilC P op t (evalA τ y) (evalA τ z) = some b) (hy : Rd w pl own (evalA τ y) (a.eval y)) (hz : Rd w pl own (evalA τ z) (a.eval z)) :
    (do eqGuard op t y z (a.eval y) (a.eval z); binOp op t (a.eval y) (a.eval z) : Sem Value).run P w = .ok (.bool b) w := by
  have hc : nonNilV P t (evalA τ y) (evalA τ z) = true ∧ (op = .eql ∨ op = .neq) ∧ b = (op == .neq) := by
    unfold nilC at hb
    split at hb
    · split at hb
      · rename_i hn; cases hb; exact ⟨hn, .inl rfl, rfl⟩
      · cases hb
    · split at hb
      · rename_i hn; cases hb; exact ⟨hn, .inr rfl, rfl⟩
      · cases hb
    · cases hb
  obtain ⟨hn, hop, rfl⟩ := hc
  unfold nonNilV at hn
  generalize a.eval y = u at hy ⊢
  generalize a.eval z = v at hz ⊢
  generalize evalA τ y = ay at hn hy
  generalize evalA τ z = az at hn hz
  split at hn
  · rename_i hu
    cases hy with | d _ _ hy => cases hz with | d _ _ hz =>
    cases hz
    cases hy with | fs cs n cap b0 off f => exact cmp_slice hu _ _ _ _ _ y z hop
  · rename_i hu
    cases hz with | d _ _ hz =>
    cases hz
    cases hy with | os k id off n cap b0 base sz tt => exact cmp_slice hu _ _ _ _ _ y z hop
  · rename_i hu
    cases hz with | d _ _ hz =>
    cases hz
    cases hy with | op id off b0 base => exact cmp_ptr hu _ y z hop
  · rename_i hu
    cases hy with | d _ _ hy => cases hz with | d _ _ hz =>
    cases hz
    cases hy with | fp cs i b0 off f => exact cmp_ptr hu _ y z hop
  · rename_i hu
    cases hz with | d _ _ hz =>
    cases hz
    cases hy with | om id b0 base => exact cmp_map hu _ y z hop
  · cases hn
theorem OpQ_sound (h : RelS c τ H sh pl a w) {o : Oper} {N0 : Nat} {x : AV} (hq : OpQ P N0 H (evalA τ) o.op x) {K : Act → World → Prop} {Q : Exit → Act → World → Prop}
    (hK : ∀ v w', RelS c τ H sh pl a w' → Rd w' pl (ownB c.E H pl) x v → K (a.put o.dst v) w') : o.wp P a w K Q := by
  have done : ∀ v, (execOp a.eval o).run P w = .ok (.value v) w → Rd w pl (ownB c.E H pl) x v → o.wp P a w K Q := fun v hr hx => wp_value hr (hK v w h hx)
  obtain ⟨dst, op, ty, pos, after, guard⟩ := o
  simp only at hq hK done
  unfold OpQ at hq
  split at hq
  · subst hq; exact done _ rfl (h.eval _)
  · subst hq; exact done _ rfl (h.eval _)
  · rename_i cc aa bb
    obtain ⟨t, ht, rfl⟩ := hq
    have hb := h.eval cc
    rw [ht] at hb
    have hbv : a.eval cc = .bool t := by
      generalize a.eval cc = z at hb ⊢
      cases hb with | d _ _ hb => cases hb; rfl
    refine done (if t then a.eval aa else a.eval bb) (by simp [execOp, hbv, asBool]) ?_
    cases t
    · exact h.eval bb
    · exact h.eval aa
  · obtain ⟨u, h1, h2⟩ := hq.run h.h (h.eval _)
    exact done u (by simp [execOp, h1]) h2
  · obtain ⟨u, h1, h2⟩ := hq.run (h.eval _)
    exact done u (by simp [execOp, h1]) h2
  · obtain ⟨u, h1, h2⟩ := hq.run (h.eval _)
    exact done u (by simp [execOp, h1]) h2
  · obtain ⟨u, h1, h2⟩ := hq.run (h.eval _) (h.eval _)
    exact done u (by simp [execOp, h1]) h2
  · obtain ⟨u, h1, h2⟩ := hq.run (h.eval _) (h.eval _)
    exact done u (by simp [execOp, h1]) h2
  · rename_i t p lo hi
    have ev : ∀ (z : Option Operand) (y : AV), z.map (evalA τ) = some y → ∃ v, z.map a.eval = some v ∧ Rd w pl (ownB c.E H pl) y v := fun z y hz => by
      obtain ⟨b, rfl, rfl⟩ := Option.map_eq_some_iff.1 hz
      exact ⟨_, rfl, h.eval b⟩
    have ev0 : ∀ (z : Option Operand), z.map (evalA τ) = none → z.map a.eval = none := fun z hz => by
      cases z <;> simp_all
    obtain ⟨u, h1, h2⟩ := hq.run h.h (h.eval p) (ev lo) (ev0 lo) (ev hi) (ev0 hi)
    exact done u (by simp [execOp, h1]) h2
  · rename_i op t y z t'
    rcases hq with ⟨u, v, r, hu, hv, hr, rfl⟩ | ⟨b, hb, rfl⟩
    case inr =>
      have hrun := nilC_run (P := P) hb (h.eval y) (h.eval z)
      exact done _ (by simp only [execOp, Sem.run_bind] at hrun ⊢; rw [hrun]; rfl) (.d _ _ (.val _))
    have h1 := h.eval y
    rw [hu] at h1
    have e1 : a.eval y = u := by generalize a.eval y = q at h1; cases h1 with | d _ _ h1 => cases h1; rfl
    have h2 := h.eval z
    rw [hv] at h2
    have e2 : a.eval z = v := by generalize a.eval z = q at h2; cases h2 with | d _ _ h2 => cases h2; rfl
    have hrun := binV_run (P := P) hr y z w
    exact done r (by simp only [execOp, e1, e2, Sem.run_bind] at hrun ⊢; rw [hrun]; rfl) (.d _ _ (.val _))
  · rename_i op t y
    obtain ⟨u, r, hu, hr, rfl⟩ := hq
    have h1 := h.eval y
    rw [hu] at h1
    have e1 : a.eval y = u := by generalize a.eval y = q at h1; cases h1 with | d _ _ h1 => cases h1; rfl
    exact done r (by simp [execOp, e1, unV_run (P := P) hr w]) (.d _ _ (.val _))
  · rename_i s t y
    obtain ⟨k, k', j, n, hu, hs, ht, rfl⟩ := hq
    have h1 := h.eval y
    rw [hu] at h1
    have e1 : a.eval y = .int j n := int_rd h1
    exact done _ (by simp [execOp, e1, intKO_run hs ht]) (.d _ _ (.val _))
  · rename_i t parts
    obtain ⟨u, h1, h2⟩ := hq.run (w := w) (pl := pl) (own := ownB c.E H pl) (vparts := parts.map fun p => (p.1, a.eval p.2)) (by simp) (fun j i x hj => by
      rw [List.getElem?_map, Option.map_eq_some_iff] at hj
      obtain ⟨q, hq, he⟩ := hj
      cases he
      exact ⟨a.eval q.2, by rw [Array.toList_map, List.getElem?_map, hq]; rfl, h.eval q.2⟩)
    exact done u (by simp only [execOp, Sem.run_bind, h1]; rfl) h2
  · rename_i t i
    obtain ⟨vs, hv, hi⟩ := hq
    have h1 := h.eval t
    rw [hv] at h1
    generalize ht : a.eval t = q at h1
    cases h1 with
    | tup _ us hl hx =>
      have hlt := (List.getElem?_eq_some_iff.1 hi).1
      have e : us[i]? = some (us.getD i undef) := by rw [Array.getElem?_eq_getElem (by omega)]; simp [Array.getD, hl, hlt]
      have hx' := hx i x hi
      generalize us.getD i undef = u0 at e hx'
      exact done u0 (by simp [execOp, ht, Instr.extract, e]) hx'
  · rename_i y
    obtain ⟨hm, rfl⟩ := hq
    have h1 := h.eval y
    refine done (a.eval y) ?_ h1
    split at hm
    · rename_i e; rw [e] at h1
      generalize hy : a.eval y = q at h1
      cases h1; simp [execOp, hy]
    · rename_i e; rw [e] at h1
      generalize hy : a.eval y = q at h1
      cases h1 with | d _ _ h1 => cases h1; simp [execOp, hy]
    · rename_i e; rw [e] at h1
      generalize hy : a.eval y = q at h1
      cases h1; simp [execOp, hy]
    · exact hm.elim
  · obtain ⟨u, h1, h2⟩ := LookupQ.run hq h.h (h.eval _) (h.eval _)
    exact done u (by simp [execOp, h1]) h2
  · rename_i fn fi ca
    subst hq
    have k1 := h.args fi
    have k2 := h.args ca
    exact done _ (by simp [execOp, Instr.makeFunc]) (.clo _ _ _ _ _ k1.1 k1.2 k2.1 k2.2)
  · rename_i cl
    obtain ⟨callee, args, ts⟩ := cl
    simp only at hq
    split at hq
    · exact CallQ_sound (o := ⟨dst, _, ty, pos, after, guard⟩) h rfl hq hK
    · rename_i b
      obtain ⟨v, h1, h2⟩ := BuiltinQ_run h hq ty (args.map fun | .const _ => true | _ => false)
      exact done v (by simp only [execOp, resolve, Sem.run_bind, Sem.run_pure, Result.andThen_ok, invoke]; exact h1) h2
    · exact hq.elim
  · exact hq.elim

/-! ### New objects -/
def SrcA (H : AHeap) (s : Nat) (src : AV) (m : Nat) (l : List AV) : Prop :=
  match src with
  | .d (.fs cs n) => cs.length = n * s ∧ m = n ∧ l = cs.map .d
  | .os k id off n => k = s ∧ ∃ cs, H[id]? = some (.cells cs) ∧ takeD cs off (n * s) = some l ∧ m = n
  | .d (.val (.slice none 0 0)) => m = 0 ∧ l = []
  | _ => False
theorem SrcA.src {s m : Nat} {x : AV} {l : List AV} (h : SrcA H s x m l) : Src H s x m l := by
  unfold SrcA at h
  split at h
  · obtain ⟨h1, rfl, rfl⟩ := h; exact .fs _ _ h1
  · obtain ⟨rfl, cs, h1, h2, rfl⟩ := h; exact .os _ _ _ cs _ h1 h2
  · obtain ⟨rfl, rfl⟩ := h; exact .nil
  · exact h.elim
def AppA (P : Program) (dr : Bool) (nid : Nat) (t : TypeId) (base src : AV) (H : AHeap) (sh : List (Nat × Nat)) (x : AV) (H' : AHeap) (sh' : List (Nat × Nat)) : Prop :=
  ∃ e s zs bts m l, elO P t = some (none, e, s) ∧ zcO P e = some zs ∧ zs.length = s ∧ byO P e = some bts ∧ SrcA H s src m l ∧
    match base with
    | .os k id off n => ∃ cs, k = s ∧ H[id]? = some (.cells cs) ∧ off + n * s = cs.length ∧ n + m ≤ maxLen ∧ (n + m) * bts ≤ 140737488355328 ∧ x = .os s nid 0 (n + m) ∧
        if dr then (∀ p ∈ sh, p.2 ≠ id) ∧ H' = H.set nid (.cells (cs.drop off ++ l)) ∧ sh' = appSh sh id nid else sh = [] ∧ H' = (H.set nid (.cells (cs.drop off ++ l))).set id .dead ∧ sh' = []
    | .d (.val (.slice none 0 0)) => m ≤ maxLen ∧ m * bts ≤ 140737488355328 ∧ x = .os s nid 0 m ∧ H' = H.set nid (.cells l) ∧ sh' = sh
    | _ => False
def OpA (P : Program) (dr : Bool) (nid : Nat) (ρ : Operand → AV) (op : Op) (H : AHeap) (sh : List (Nat × Nat)) (x : AV) (H' : AHeap) (sh' : List (Nat × Nat)) : Prop :=
  match op with
  | .box _ y => ∃ cs, asCells (ρ y) = some cs ∧ x = .op nid 0 ∧ H' = H.set nid (.cells cs) ∧ sh' = sh
  | .alloc t => ∃ zs, zcO P t = some zs ∧ zs.all D.one = true ∧ x = .op nid 0 ∧ H' = H.set nid (.cells (zs.map .d)) ∧ sh' = sh
  | .makeSlice t l cp => ∃ (e : TypeId) (s : Nat) (zs : List D) (bts : Nat) (k1 k2 : IntKind) (n m : Int), elO P t = some (none, e, s) ∧ zcO P e = some zs ∧ zs.length = s ∧ 0 < s ∧ zs.all D.one = true ∧ byO P e = some bts ∧
      ρ l = .d (.val (.int k1 n)) ∧ ρ cp = .d (.val (.int k2 m)) ∧ 0 ≤ n ∧ n ≤ m ∧ m ≤ maxLen ∧ bts * m.toNat ≤ 281474976710656 ∧ x = .os s nid 0 n.toNat ∧ H' = H.set nid (.cells (reps n.toNat zs)) ∧ sh' = sh
  | .makeMap t hint => (hint = none ∨ ∃ y k m, hint = some y ∧ ρ y = .d (.val (.int k m)) ∧ (mapO P t).isSome = true) ∧ x = .om nid ∧ H' = H.set nid (.map [] 0) ∧ sh' = sh
  | .buildSlice t len parts => ∃ e s zs cs, elO P t = some (none, e, s) ∧ zcO P e = some zs ∧ zs.length = s ∧ 0 < s ∧ zs.all D.one = true ∧ len * s ≤ 16777216 ∧ fillA (fun i => some (i * s, s)) (reps len zs) (parts.toList.map fun p => (p.1, ρ p.2)) = some cs ∧
      (x = .os s nid 0 len ∧ H' = H.set nid (.cells cs) ∨ ∃ ds : List D, cs = ds.map .d ∧ ds.length = len * s ∧ x = .d (.fs ds len) ∧ H' = H.set nid .dead) ∧ sh' = sh
  | .call c => match c.callee with
    | .value f => ∃ n fi ca ds r cs, calleeOf (ρ f) = some (n, fi, ca) ∧ AV.toD.toDs (fi ++ c.args.toList.map ρ ++ ca) = some ds ∧ FCalls P n ds r cs ∧ x = r nid ∧ H' = H.set nid (.cells (cs.map .d)) ∧ sh' = sh
    | .builtin .append => match c.args.toList, c.argTypes.toList with
      | [s, y], [t, t'] => t' = t ∧ AppA P dr nid t (ρ s) (ρ y) H sh x H' sh'
      | _, _ => False
    | _ => False
  | _ => False
theorem RelS.laid (h : RelS c τ H sh pl a w) {n : Nat} (hn : H[n]? = some .free) (hsn : ∀ p ∈ sh, p.1 ≠ n ∧ p.2 ≠ n) (hb : Below w.heap.size w w') {p : Option (Nat × Nat)} (hp : ∀ q, p = some q → w.heap.size ≤ q.1) {o : AObj}
    (ho : ∀ own', (∀ b, own' b → ownB c.E H pl b ∨ ∃ k, p = some (b, k)) → ObjAt w' (pl.set n p) own' n o) : RelS c τ (H.set n o) sh (pl.set n p) a w' ∧ ∀ b, ownB c.E (H.set n o) (pl.set n p) b → ownB c.E H pl b ∨ ∃ k, p = some (b, k) := by
  have hp0 := h.h.free_place hn
  have hs : Stp (fun _ => False) w w' := ⟨hb.os, hb.tape, hb.output, hb.size, fun b h _ => hb.block b h, fun b s hs => (shape_of_eq (hb.block b (shape_lt hs))).trans hs⟩
  have hplace := fun i oo p' h1 h2 => h.h.place (n := n) (o := o) (q := p) i oo p' h1 h2
  have hown : ∀ b, ownB c.E (H.set n o) (pl.set n p) b → ownB c.E H pl b ∨ ∃ k, p = some (b, k) := fun b hb => by
    rcases hb with hb | ⟨i, oo, e, h1, h2, h3⟩
    · exact .inl (.inl hb)
    · rcases hplace i oo _ h1 h3 with ⟨_, k1, k2⟩ | ⟨_, _, k⟩
      · exact .inl (.inr ⟨i, oo, e, k1, h2, k2⟩)
      · exact .inr ⟨e, k⟩
  have hlt : ∀ (id : Nat) (oo : AObj) (p : Nat × Nat), H[id]? = some oo → oo.live = true → pl[id]? = some (some p) → p.1 < w.heap.size := fun id oo p h1 h2 h3 => h.h.block_lt h1 h2 h3
  refine ⟨h.step (hs.mono fun _ _ h => h.elim) (pl_set hp0) (fun b hb' => ?_) ⟨by simp [h.h.len], fun i oo hi => ?_, fun i j oi oj p1 q1 h1 h2 l1 l2 hne s1 s2 e1 e2 => ?_, fun i oo p1 h1 l1 e1 => ?_, fun p hp => by have := h.h.shl p hp; simpa using this, fun i j ci cj p1 q1 hm h1 h2 e1 e2 hpq => ?_⟩, hown⟩
  · obtain ⟨i, oo, e, h1, h2, h3⟩ := hb'
    rcases hplace i oo _ h1 h3 with ⟨_, k1, k2⟩ | ⟨_, _, k⟩
    · exact .inl ⟨i, oo, e, k1, h2, k2⟩
    · exact .inr (hp _ k)
  · rcases set_cases hi with ⟨rfl, rfl, _⟩ | ⟨hne, hi⟩
    · exact ho _ hown
    · refine (h.h.obj i oo hi).mono hb.size (fun b h _ => hb.block b h) (fun b hbl hb' => ?_) hs.shape (pl_set hp0) (fun hh => by rw [set_ne hne]; exact hh) (fun hl b e he => hb.block b (hlt i oo _ hi hl he))
      rcases hown b hb' with h' | ⟨k, h'⟩
      · exact h'
      · have := hp _ h'; simp only at this; omega
  · rcases hplace i oi p1 h1 e1 with ⟨_, a1, a2⟩ | ⟨a0, a1, a2⟩ <;> rcases hplace j oj q1 h2 e2 with ⟨_, b1, b2⟩ | ⟨b0, b1, b2⟩
    · exact h.h.dis i j oi oj p1 q1 a1 b1 l1 l2 hne s1 s2 a2 b2
    · have := hlt i oi p1 a1 l1 a2; have := hp _ b2; omega
    · have := hlt j oj q1 b1 l2 b2; have := hp _ a2; omega
    · omega
  · rcases hplace i oo p1 h1 e1 with ⟨_, a1, a2⟩ | ⟨a0, a1, a2⟩
    · exact h.h.ext i oo p1 a1 l1 a2
    · intro he; have := h.lt _ he; have := hp _ a2; omega
  · rcases hplace i _ p1 h1 e1 with ⟨_, a1, a2⟩ | ⟨a0, a1, a2⟩
    · rcases hplace j _ q1 h2 e2 with ⟨_, b1, b2⟩ | ⟨b0, b1, b2⟩
      · exact h.h.shr i j ci cj p1 q1 hm a1 b1 a2 b2 hpq
      · exact absurd b0 (hsn _ hm).2
    · exact absurd a0 (hsn _ hm).1
/-- A row of data that is written no more reads as data. -/
theorem RelS.frozen (h : RelS c τ H sh pl a w) {n : Nat} (hsn : ∀ p ∈ sh, p.1 ≠ n ∧ p.2 ≠ n) {ds : List D} {s len : Nat} (hid : H[n]? = some (.cells (ds.map .d))) (hl : ds.length = len * s) (h0 : 0 < s) {v : Value} (hv : Rd w pl (ownB c.E H pl) (.os s n 0 len) v) :
    RelS c τ (H.set n .dead) sh pl a w ∧ Rd w pl (ownB c.E (H.set n .dead) pl) (.d (.fs ds len)) v := by
  refine ⟨h.kill n (fun i j hm _ _ => hm) (fun p hp => hp), ?_⟩
  have hown : ∀ b, ownB c.E (H.set n .dead) pl b → ownB c.E H pl b ∧ (∀ base, pl[n]? = some (some (b, base)) → False) := fun b hb => by
    rcases hb with hb | ⟨i, o, e, h1, h2, h3⟩
    · exact ⟨.inl hb, fun base hp => h.h.ext n _ _ hid rfl hp hb⟩
    · rcases set_cases h1 with ⟨_, rfl, _⟩ | ⟨hne, h1⟩
      · cases h2
      · exact ⟨.inr ⟨i, o, e, h1, h2, h3⟩, fun base hp => h.h.dis i n o _ _ _ h1 hid h2 rfl hne (fun hm => (hsn _ hm).2 rfl) (fun hm => (hsn _ hm).1 rfl) h3 hp rfl⟩
  cases hv with
  | os _ _ _ _ cap b base sz t hp hsh hn hm hz =>
    rcases h.h.obj _ _ hid with ⟨_, k2⟩ | ⟨b', base', arr, t', k1, k2, k3, k4⟩
    · rw [hp] at k2; cases k2
    · rw [hp] at k1; cases k1
      have k3' : base + ds.length ≤ arr.size := by simpa using k3
      refine .d _ _ (.fs ds len cap b (base + 0) (fun j => arr.getD (base + j) undef) (Array.getElem?_eq_some_iff.1 k2).1 (fun hb => (hown b hb).2 base hp) hn hm (fun j y hj => ?_) (fun j y hj => ?_) (fun j y hj => ?_))
      · have := (List.getElem?_eq_some_iff.1 hj).1
        rw [cell_of_row _ _ _ _ _ _ k2]
        simp [Array.getD, show base + j < arr.size by omega]
      · exact (k4 j (.d y) (by rw [List.getElem?_map, hj]; rfl)).2
      · have h1 := (k4 j (.d y) (by rw [List.getElem?_map, hj]; rfl)).1
        cases h1 with | d _ _ h1 =>
        exact h1.mono (Nat.le_refl _) (fun _ _ _ => rfl) (fun b _ hb => (hown b hb).1)
  | os0 _ _ _ ad =>
    have : ds = [] := List.eq_nil_of_length_eq_zero (by simpa using hl)
    subst this
    exact .d _ _ (.f0 ad 0 (Nat.zero_le _) (fun _ => rfl))
theorem OpA_sound (h : RelS c τ H sh pl a w) {o : Oper} {dr : Bool} {n : Nat} (hn : H[n]? = some .free) (hsn : ∀ p ∈ sh, p.1 ≠ n ∧ p.2 ≠ n) {x : AV} (hq : OpA P dr n (evalA τ) o.op H sh x H' sh') {K : Act → World → Prop} {Q : Exit → Act → World → Prop}
    (hK : ∀ v w' pl', RelS c τ H' sh' pl' a w' → Rd w' pl' (ownB c.E H' pl') x v → K (a.put o.dst v) w') : o.wp P a w K Q := by
  have done : ∀ v w', (execOp a.eval o).run P w = .ok (.value v) w' → Lays c τ a H' sh' x v w' → o.wp P a w K Q := fun v w' hr ⟨pl', h1, h2⟩ => wp_value hr (hK v w' pl' h1 h2)
  obtain ⟨dst, op, ty, pos, after, guard⟩ := o
  simp only at hq hK done
  unfold OpA at hq
  split at hq
  · rename_i t y
    obtain ⟨cs, hc, rfl, rfl, rfl⟩ := hq
    obtain ⟨u, w', h1, h2⟩ := box_run (P := P) h hn hsn t hc (h.eval y)
    exact done u w' (by simp [execOp, h1]) h2
  · obtain ⟨zs, hz, h0, rfl, rfl, rfl⟩ := hq
    obtain ⟨u, w', h1, h2⟩ := alloc_run (P := P) h hn hsn _ hz h0
    exact done u w' (by simp [execOp, h1]) h2
  · obtain ⟨e, s, zs, bts, k1, k2, m, m', he, hz, hl, h0, h1, hby, hm, hm', b0, b1, b2, b3, rfl, rfl, rfl⟩ := hq
    have r1 := int_rd (hm ▸ h.eval _)
    have r2 := int_rd (hm' ▸ h.eval _)
    obtain ⟨q, rfl⟩ : ∃ q : Nat, m = q := ⟨m.toNat, by omega⟩
    obtain ⟨q', rfl⟩ : ∃ q : Nat, m' = q := ⟨m'.toNat, by omega⟩
    simp only [Int.toNat_natCast] at *
    obtain ⟨u, w', h2, h3⟩ := makeSlice_run (P := P) h hn hsn he hz hl h0 h1 hby k1 k2 (n := q) (cap := q') (by omega) (by omega) b3
    exact done u w' (by simp [execOp, r1, r2, h2]) h3
  · rename_i t hint
    obtain ⟨hh, rfl, rfl, rfl⟩ := hq
    obtain ⟨h1, h2, h3⟩ := makeMap_run (P := P) h hn hsn t (hint.map a.eval) (by
      rcases hh with rfl | ⟨y, k, m, rfl, hy, hm⟩
      · exact .inl rfl
      · exact .inr ⟨k, m, congrArg some (int_rd (hy ▸ h.eval y)), hm⟩)
    exact done _ _ (by simp only [execOp, Sem.run_bind, h1]; rfl) ⟨_, h2, h3⟩
  · rename_i t len parts
    obtain ⟨e, s, zs, cs, he, hz, hl, h0, h1, hsm, hf, hc, rfl⟩ := hq
    obtain ⟨u, w', h2, h3⟩ := buildSlice_run (P := P) h hn hsn he hz hl h0 h1 hsm hf (vparts := parts.map fun p => (p.1, a.eval p.2)) (by simp) (fun j i x hj => by
      rw [List.getElem?_map, Option.map_eq_some_iff] at hj
      obtain ⟨q, hq, he⟩ := hj
      cases he
      exact ⟨a.eval q.2, by rw [Array.toList_map, List.getElem?_map, hq]; rfl, h.eval q.2⟩)
    rcases hc with ⟨rfl, rfl⟩ | ⟨ds, rfl, hdl, rfl, rfl⟩
    · exact done u w' (by simp only [execOp, Sem.run_bind, h2]; rfl) h3
    · obtain ⟨pl', k1, k2⟩ := h3
      have hlt : n < H.length := (List.getElem?_eq_some_iff.1 hn).1
      obtain ⟨f1, f2⟩ := k1.frozen hsn (List.getElem?_set_self hlt) hdl h0 k2
      rw [List.set_set] at f1 f2
      exact done u w' (by simp only [execOp, Sem.run_bind, h2]; rfl) ⟨pl', f1, f2⟩
  · rename_i cl
    obtain ⟨callee, args, ts⟩ := cl
    simp only at hq
    split at hq
    · obtain ⟨f, fi, ca, ds, r, cs, hc, hds, hp, rfl, rfl, rfl⟩ := hq
      obtain ⟨vs, us, hv, h1, h2⟩ := calleeOf_rd hc (h.eval _)
      have hall := (h1.append (h.args args)).append h2
      obtain ⟨l1, l2⟩ := toDs_rd w pl (ownB c.E H pl) _ ds _ hds hall.2
      refine wp_enter (o := ⟨dst, _, ty, pos, after, guard⟩) (call_run (o := ⟨dst, _, ty, pos, after, guard⟩) rfl hv hp.1) ((hp.2 w (ownB c.E H pl) _ (by rw [hall.1, l1]) l2 h.own_lt).mono fun e w' ⟨v, p, he, hb, hge, ho⟩ => ⟨v, he, ?_⟩)
      have hpn : (pl.set n p)[n]? = some p := place_new h hn p
      obtain ⟨o1, o2⟩ := ho _ _ hpn
      obtain ⟨hS, hown⟩ := h.laid hn hsn hb hge (o := .cells (cs.map .d)) (fun own' hsub => o1.mono (Nat.le_refl _) (fun _ _ _ => rfl) (fun b _ hb => hsub b hb) (fun _ _ h => h) (fun _ _ h => h) (fun h => h) (fun _ _ _ _ => rfl))
      exact hK v w' _ hS (o2.mono (Nat.le_refl _) (fun _ _ _ => rfl) (fun b _ hb => hown b hb) (fun _ _ h => h) (fun _ _ h => h))
    · obtain ⟨args⟩ := args
      obtain ⟨ts⟩ := ts
      simp only at hq
      split at hq
      · rename_i s y t t'
        obtain ⟨rfl, e, k, zs, bts, m, l, he, hz, hl, hby, hs, hq⟩ := hq
        have hrun : ∀ u w', (Builtin.append_ #[t', t'] ty #[a.eval s, a.eval y]).run P w = .ok u w' → (execOp a.eval ⟨dst, .call { callee := .builtin .append, args := ⟨[s, y]⟩, argTypes := ⟨[t', t']⟩ }, ty, pos, after, guard⟩).run P w = .ok (.value u) w' := fun u w' h1 => by
          simp only [execOp, resolve, Sem.run_bind, Sem.run_pure, Result.andThen_ok, invoke, builtin, List.map_toArray, List.map_cons, List.map_nil]
          rw [h1]; rfl
        split at hq
        · rename_i k' id off q e3
          obtain ⟨cs, rfl, hid, hend, b1, b2, rfl, hq⟩ := hq
          have hv := h.eval s
          rw [e3] at hv
          cases dr with
          | true =>
            obtain ⟨hsh, rfl, rfl⟩ := hq
            obtain ⟨u, w', h1, h2⟩ := append_own (P := P) (ty := ty) h hn hsn he hby hz hl hid hend hsh hv hs.src (h.eval y) b1 b2
            exact done u w' (hrun u w' h1) h2
          | false =>
            obtain ⟨rfl, rfl, rfl⟩ := hq
            obtain ⟨u, w', h1, pl', h2, h3⟩ := append_own (P := P) (ty := ty) h hn hsn he hby hz hl hid hend (fun p hp => by cases hp) hv hs.src (h.eval y) b1 b2
            refine done u w' (hrun u w' h1) ⟨pl', h2.kill id (fun i j hm h4 h5 => ?_) (fun p hp => by cases hp), ?_⟩
            · rcases mem_appSh hm with ⟨_, k⟩ | ⟨_, k⟩ | k
              · exact absurd k h5
              · cases k
              · cases k
            · refine h3.mono (Nat.le_refl _) (fun _ _ _ => rfl) (fun b _ hb => ?_) (fun _ _ h => h) (fun _ _ h => h)
              rcases hb with hb | ⟨i, oo, e, k1, k2, k3⟩
              · exact .inl hb
              · rcases set_cases k1 with ⟨_, rfl, _⟩ | ⟨_, k1⟩
                · cases k2
                · exact .inr ⟨i, oo, e, k1, k2, k3⟩
        · rename_i e3
          obtain ⟨b1, b2, rfl, rfl, rfl⟩ := hq
          have hv := h.eval s
          rw [e3] at hv
          have hv' : a.eval s = .slice none 0 0 := by generalize a.eval s = z at hv; cases hv with | d _ _ hv => cases hv; rfl
          obtain ⟨u, w', h1, h2⟩ := append_nil (P := P) (ty := ty) h hn hsn he hby hz hl hs.src (h.eval y) b1 b2
          exact done u w' (hrun u w' (by rw [hv']; exact h1)) h2
        · exact hq.elim
      · exact hq.elim
    · exact hq.elim
  · exact hq.elim
/-! ### Stores -/
def OpD (P : Program) (ρ : Operand → AV) (op : Op) (H : AHeap) (sh : List (Nat × Nat)) (N1 : Nat) (H' : AHeap) : Prop :=
  match op with
  | .store t p y => ∃ id i cs l, ρ p = .op id i ∧ H[id]? = some (.cells cs) ∧ szO P t = some l.length ∧ asCells (ρ y) = some l ∧ i + l.length ≤ cs.length ∧ (∀ q ∈ sh, q.1 ≠ id ∧ q.2 ≠ id) ∧ N1 ≤ id ∧ H' = H.set id (.cells (setMany cs i l))
  | _ => False
theorem OpD_sound (h : RelS c τ H sh pl a w) {o : Oper} {N1 : Nat} (hq : OpD P (evalA τ) o.op H sh N1 H') {K : Act → World → Prop} {Q : Exit → Act → World → Prop}
    (hK : ∀ w' pl', RelS c τ H' sh pl' a w' → K (a.put o.dst undef) w') : o.wp P a w K Q := by
  obtain ⟨dst, op, ty, pos, after, guard⟩ := o
  simp only at hq hK
  unfold OpD at hq
  split at hq
  · rename_i t p y
    obtain ⟨id, i, cs, l, hp, hid, hs, hc, hi, hsh, _, rfl⟩ := hq
    have h1 := h.eval p
    rw [hp] at h1
    obtain ⟨w', h2, pl', h3⟩ := store_run (P := P) h t hid hs hc hi hsh h1 (h.eval y)
    exact wp_skip' (by simp only [execOp, Sem.run_bind]; rw [h2]; rfl) (hK w' pl' h3)
  · exact hq.elim
end
end Go.Proofs.Ytfpcailbobjfnaa
