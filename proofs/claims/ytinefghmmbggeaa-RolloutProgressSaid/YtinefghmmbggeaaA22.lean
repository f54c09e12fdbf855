/- Of no program: the abstract machine's run, as equations, operation by operation. -/
import Derived.Test.YtinefghmmbggeaaA20
set_option linter.unusedVariables false
set_option linter.unusedSimpArgs false
namespace Go.Proofs.Ytinefghmmbggeaa
open Go Go.RowKit
section
variable {P : Program} {N : Nat} {H : AHeap} {ρ : Operand → AV} {K : AV → Prop} {t e : TypeId} {s k n i j id off o : Nat} {cs : List D}
theorem q_move {y : Operand} : (∃ x, OpQ P N H ρ (.move y) x ∧ K x) = K (ρ y) := by simp [OpQ]
theorem q_assign {y : Operand} : (∃ x, OpQ P N H ρ (.assign y) x ∧ K x) = K (ρ y) := by simp [OpQ]
theorem q_pick {c a b : Operand} : (∃ x, OpQ P N H ρ (.pick c a b) x ∧ K x) = ∃ t, ρ c = .d (.val (.bool t)) ∧ K (if t then ρ a else ρ b) := by
  refine propext ⟨fun ⟨x, ⟨t, h1, h2⟩, h3⟩ => ⟨t, h1, h2 ▸ h3⟩, fun ⟨t, h1, h2⟩ => ⟨_, ⟨t, h1, rfl⟩, h2⟩⟩
def PickK (p a b : AV) (K : AV → Prop) : Prop := ∃ t, p = .d (.val (.bool t)) ∧ K (if t then a else b)
theorem q_load {y : Operand} : (∃ x, OpQ P N H ρ (.load t y) x ∧ K x) = ∃ x, LoadQ P H N t (ρ y) x ∧ K x := rfl
theorem q_fieldAddr {y : Operand} {f : Nat} : (∃ x, OpQ P N H ρ (.fieldAddr t y f) x ∧ K x) = ∃ x, FieldAddrQ P t f (ρ y) x ∧ K x := rfl
theorem q_field {y : Operand} {f : Nat} : (∃ x, OpQ P N H ρ (.field t y f) x ∧ K x) = ∃ x, FieldQ P t f (ρ y) x ∧ K x := rfl
theorem q_indexAddr {y z : Operand} : (∃ x, OpQ P N H ρ (.indexAddr t y z) x ∧ K x) = ∃ x, IndexAddrQ P t (ρ y) (ρ z) x ∧ K x := rfl
theorem q_index {y z : Operand} : (∃ x, OpQ P N H ρ (.index t y z) x ∧ K x) = ∃ x, IndexQ P t (ρ y) (ρ z) x ∧ K x := rfl
theorem q_slice {y : Operand} {lo hi : Option Operand} : (∃ x, OpQ P N H ρ (.slice t y lo hi none) x ∧ K x) = ∃ x, SliceQ P H N t (ρ y) (lo.map ρ) (hi.map ρ) x ∧ K x := rfl
def BinK (P : Program) (op : BinOp) (t : TypeId) (y z : AV) (K : AV → Prop) : Prop := (∃ u v r, y = .d (.val u) ∧ z = .d (.val v) ∧ binV P op t u v = some r ∧ K (.d (.val r))) ∨ ∃ b, nilC P op t y z = some b ∧ K (.d (.val (.bool b)))
theorem q_binOp {op : BinOp} {y z : Operand} {t' : TypeId} : (∃ x, OpQ P N H ρ (.binOp op t y z t') x ∧ K x) = BinK P op t (ρ y) (ρ z) K :=
  propext ⟨fun ⟨_, h, h5⟩ => h.elim (fun ⟨u, v, r, h1, h2, h3, h4⟩ => .inl ⟨u, v, r, h1, h2, h3, h4 ▸ h5⟩) (fun ⟨b, h1, h2⟩ => .inr ⟨b, h1, h2 ▸ h5⟩),
    fun h => h.elim (fun ⟨u, v, r, h1, h2, h3, h4⟩ => ⟨_, .inl ⟨u, v, r, h1, h2, h3, rfl⟩, h4⟩) (fun ⟨b, h1, h2⟩ => ⟨_, .inr ⟨b, h1, rfl⟩, h2⟩)⟩
theorem nilC_val {op : BinOp} {u : Value} {z : AV} : nilC P op t (.d (.val u)) z = none := by
  unfold nilC
  split <;> first | rfl | (rw [if_neg (by unfold nonNilV; simp)])
/-- Compared with nil: what is surely not nil. -/
theorem bin_nil {op : BinOp} {y : AV} {v : Value} (hn : nonNilV P t y (.d (.val v)) = true) (hop : op = .eql ∨ op = .neq) : BinK P op t y (.d (.val v)) K = K (.d (.val (.bool (op == .neq)))) := by
  have hy : ∀ u, y ≠ .d (.val u) := fun u e => by subst e; unfold nonNilV at hn; simp at hn
  unfold BinK nilC
  rcases hop with rfl | rfl
  · simp only [hn, if_true, Option.some.injEq, exists_eq_left']
    refine propext ⟨fun h => h.elim (fun ⟨u, _, _, h, _⟩ => absurd h (hy u)) id, .inr⟩
  · simp only [hn, if_true, Option.some.injEq, exists_eq_left']
    refine propext ⟨fun h => h.elim (fun ⟨u, _, _, h, _⟩ => absurd h (hy u)) id, .inr⟩
theorem bin_val {op : BinOp} {u v : Value} : BinK P op t (.d (.val u)) (.d (.val v)) K = ∃ r, binV P op t u v = some r ∧ K (.d (.val r)) := by
  simp [BinK, nilC_val]
def UnK (op : UnOp) (y : AV) (K : AV → Prop) : Prop := ∃ u r, y = .d (.val u) ∧ unV op u = some r ∧ K (.d (.val r))
theorem q_unOp {op : UnOp} {y : Operand} : (∃ x, OpQ P N H ρ (.unOp op t y) x ∧ K x) = UnK op (ρ y) K :=
  propext ⟨fun ⟨_, ⟨u, r, h1, h2, h3⟩, h5⟩ => ⟨u, r, h1, h2, h3 ▸ h5⟩, fun ⟨u, r, h1, h2, h4⟩ => ⟨_, ⟨u, r, h1, h2, rfl⟩, h4⟩⟩
theorem un_not {b : Bool} : UnK .not (.d (.val (.bool b))) K = K (.d (.val (.bool (!b)))) := by simp [UnK, unV]
def ConvK (P : Program) (s t : TypeId) (y : AV) (K : AV → Prop) : Prop := ∃ k k' j n, y = .d (.val (.int j n)) ∧ intKO P s = some k ∧ intKO P t = some k' ∧ K (.d (.val (.int k' (k'.wrap n))))
theorem q_convert {s : TypeId} {y : Operand} : (∃ x, OpQ P N H ρ (.convert s t y) x ∧ K x) = ConvK P s t (ρ y) K :=
  propext ⟨fun ⟨_, ⟨k, k', j, n, h1, h2, h3, h4⟩, h5⟩ => ⟨k, k', j, n, h1, h2, h3, h4 ▸ h5⟩, fun ⟨k, k', j, n, h1, h2, h3, h4⟩ => ⟨_, ⟨k, k', j, n, h1, h2, h3, rfl⟩, h4⟩⟩
theorem conv_int {s : TypeId} {j : IntKind} {m : Int} : ConvK P s t (.d (.val (.int j m))) K = ∃ k, intKO P s = some k ∧ ∃ k', intKO P t = some k' ∧ K (.d (.val (.int k' (k'.wrap m)))) :=
  propext ⟨fun ⟨k, k', _, _, h3, h4, h5, h6⟩ => by cases h3; exact ⟨k, h4, k', h5, h6⟩, fun ⟨k, h1, k', h2, h3⟩ => ⟨k, k', j, m, rfl, h1, h2, h3⟩⟩
theorem q_build {parts : Array (Nat × Operand)} : (∃ x, OpQ P N H ρ (.build t parts) x ∧ K x) = ∃ x, BuildQ P t (parts.toList.map fun p => (p.1, ρ p.2)) x ∧ K x := rfl
theorem q_extract {y : Operand} {i : Nat} : (∃ x, OpQ P N H ρ (.extract y i) x ∧ K x) = ∃ x, (∃ vs, ρ y = .tup vs ∧ vs[i]? = some x) ∧ K x := rfl
theorem q_makeFunc {fn : Fn} {fi ca : Array Operand} : (∃ x, OpQ P N H ρ (.makeFunc fn fi ca) x ∧ K x) = K (.clo fn (fi.toList.map ρ) (ca.toList.map ρ)) := by simp [OpQ]
theorem q_nil_op {y : Operand} (h : ρ y = .op id i) : (∃ x, OpQ P N H ρ (.nilCheck y) x ∧ K x) = K (ρ y) := by simp [OpQ, h]
theorem q_call {f : Operand} {args : Array Operand} {ts : Array TypeId} : (∃ x, OpQ P N H ρ (.call ⟨.value f, args, ts⟩) x ∧ K x) = ∃ x, CallQ P N H (ρ f) (args.toList.map ρ) x ∧ K x := rfl
theorem q_builtin {b : Builtin} {args : Array Operand} {ts : Array TypeId} : (∃ x, OpQ P N H ρ (.call ⟨.builtin b, args, ts⟩) x ∧ K x) = ∃ x, BuiltinQ P b ts.toList (args.toList.map ρ) x ∧ K x := rfl

/-! ### Facts of types, each one number or list -/
def elS (P : Program) (t : TypeId) : Option Nat := match elO P t with | some (none, _, s) => some s | _ => none
def elA (P : Program) (t : TypeId) : Option (Nat × Nat) := match elO P t with | some (some n, _, s) => some (n, s) | _ => none
/-- Of a slice's elements: size, zero, bytes. -/
def mkO (P : Program) (t : TypeId) : Option (Nat × List D × Nat) :=
  match elO P t with
  | some (none, e, s) => match zcO P e, byO P e with
    | some zs, some b => if zs.length = s ∧ 0 < s ∧ zs.all D.one = true then some (s, zs, b) else none
    | _, _ => none
  | _ => none
def zaO (P : Program) (t : TypeId) : Option (List D) := match zcO P t with | some zs => if zs.all D.one = true then some zs else none | none => none
theorem elS_spec : elS P t = some s ↔ ∃ e, elO P t = some (none, e, s) := by
  unfold elS
  split
  · rename_i e s' h; rw [h]; simp
  · rename_i h; refine ⟨fun h' => (by cases h'), fun ⟨e, h'⟩ => absurd h' (h e s)⟩
theorem elA_spec : elA P t = some (n, s) ↔ ∃ e, elO P t = some (some n, e, s) := by
  unfold elA
  split
  · rename_i m e s' h; rw [h]; simp
  · rename_i h; refine ⟨fun h' => (by cases h'), fun ⟨e, h'⟩ => absurd h' (h n e s)⟩
theorem mkO_spec {zs : List D} {b : Nat} (h : mkO P t = some (s, zs, b)) : ∃ e, elO P t = some (none, e, s) ∧ zcO P e = some zs ∧ byO P e = some b ∧ zs.length = s ∧ 0 < s ∧ zs.all D.one = true := by
  unfold mkO at h
  split at h
  · rename_i e s' he
    split at h
    · rename_i zs' b' hz hb
      split at h
      · rename_i hc
        cases h
        exact ⟨e, he, hz, hb, hc⟩
      · cases h
    · cases h
  · cases h
theorem zaO_spec {zs : List D} (h : zaO P t = some zs) : zcO P t = some zs ∧ zs.all D.one = true := by
  unfold zaO at h
  split at h
  · rename_i zs' hz
    split at h
    · cases h; exact ⟨hz, ‹_›⟩
    · cases h
  · cases h
/-! ### Loads -/
theorem load_fp : (∃ x, LoadQ P H N t (.d (.fp cs i)) x ∧ K x) = ∃ g, agO P t = some g ∧ ∃ k, szO P t = some k ∧ if g then ∃ l, takeD cs i k = some l ∧ K (.d (.agg l)) else ∃ y, cs[i]? = some y ∧ K (.d y) := by
  refine propext ⟨fun ⟨x, ⟨g, k, h1, h2, h3⟩, h4⟩ => ⟨g, h1, k, h2, ?_⟩, fun ⟨g, h1, k, h2, h3⟩ => ?_⟩
  · cases g
    · obtain ⟨y, h5, rfl⟩ := h3; exact ⟨y, h5, h4⟩
    · obtain ⟨y, h5, rfl⟩ := h3; exact ⟨y, h5, h4⟩
  · cases g
    · obtain ⟨y, h5, h6⟩ := h3; exact ⟨_, ⟨false, k, h1, h2, y, h5, rfl⟩, h6⟩
    · obtain ⟨y, h5, h6⟩ := h3; exact ⟨_, ⟨true, k, h1, h2, y, h5, rfl⟩, h6⟩
theorem load_op : (∃ x, LoadQ P H N t (.op id i) x ∧ K x) = (id < N ∧ ∃ cs, H[id]? = some (.cells cs) ∧ ∃ g, agO P t = some g ∧ ∃ k, szO P t = some k ∧ if g then ∃ l, takeD cs i k = some l ∧ K (.agg l) else ∃ y, cs[i]? = some y ∧ K y) := by
  refine propext ⟨fun ⟨x, ⟨g, k, h1, h2, h3, cs, h5, h6⟩, h4⟩ => ⟨h3, cs, h5, g, h1, k, h2, ?_⟩, fun ⟨h3, cs, h5, g, h1, k, h2, h6⟩ => ?_⟩
  · cases g
    · exact ⟨x, h6, h4⟩
    · obtain ⟨l, h7, rfl⟩ := h6; exact ⟨l, h7, h4⟩
  · cases g
    · obtain ⟨y, h7, h8⟩ := h6; exact ⟨_, ⟨false, k, h1, h2, h3, cs, h5, h7⟩, h8⟩
    · obtain ⟨y, h7, h8⟩ := h6; exact ⟨_, ⟨true, k, h1, h2, h3, cs, h5, y, h7, rfl⟩, h8⟩
/-! ### Addresses -/
theorem fa_fp {f : Nat} : (∃ x, FieldAddrQ P t f (.d (.fp cs i)) x ∧ K x) = ∃ o, foO P t f = some o ∧ K (.d (.fp cs (i + o))) :=
  propext ⟨fun ⟨_, ⟨o, h1, h2⟩, h3⟩ => ⟨o, h1, (show _ = AV.d (.fp cs (i + o)) from h2) ▸ h3⟩, fun ⟨o, h1, h2⟩ => ⟨_, ⟨o, h1, rfl⟩, h2⟩⟩
theorem fa_op {f : Nat} : (∃ x, FieldAddrQ P t f (.op id i) x ∧ K x) = ∃ o, foO P t f = some o ∧ K (.op id (i + o)) :=
  propext ⟨fun ⟨_, ⟨o, h1, h2⟩, h3⟩ => ⟨o, h1, (show _ = AV.op id (i + o) from h2) ▸ h3⟩, fun ⟨o, h1, h2⟩ => ⟨_, ⟨o, h1, rfl⟩, h2⟩⟩
theorem ia_fs {kd : IntKind} {m : Int} : (∃ x, IndexAddrQ P t (.d (.fs cs n)) (.d (.val (.int kd m))) x ∧ K x) = ∃ s, elS P t = some s ∧ 0 ≤ m ∧ m < n ∧ K (.d (.fp cs (m.toNat * s))) := by
  refine propext ⟨?_, ?_⟩
  · rintro ⟨x, ⟨kd', i, len, e', s', h1, h2, h3, h4⟩, h5⟩
    cases h1
    cases len with
    | some _ => exact h4.elim
    | none =>
      simp only at h4
      obtain ⟨h6, rfl⟩ := h4
      exact ⟨s', elS_spec.2 ⟨e', h2⟩, h3, h6, h5⟩
  · rintro ⟨s, h0, h1, h2, h3⟩
    obtain ⟨e, h⟩ := elS_spec.1 h0
    exact ⟨_, ⟨kd, m, none, e, s, rfl, h, h1, h2, rfl⟩, h3⟩
theorem ia_os {kd : IntKind} {m : Int} : (∃ x, IndexAddrQ P t (.os k id off n) (.d (.val (.int kd m))) x ∧ K x) = (elS P t = some k ∧ 0 ≤ m ∧ m < n ∧ K (.op id (off + m.toNat * k))) := by
  refine propext ⟨?_, ?_⟩
  · rintro ⟨x, ⟨kd', i, len, e', s', h1, h2, h3, h4⟩, h5⟩
    cases h1
    cases len with
    | some _ => exact h4.elim
    | none =>
      simp only at h4
      obtain ⟨h6, rfl, rfl⟩ := h4
      exact ⟨elS_spec.2 ⟨e', h2⟩, h3, h6, h5⟩
  · rintro ⟨h0, h1, h2, h3⟩
    obtain ⟨e, h⟩ := elS_spec.1 h0
    exact ⟨_, ⟨kd, m, none, e, k, rfl, h, h1, h2, rfl, rfl⟩, h3⟩
theorem ia_fp {kd : IntKind} {m : Int} : (∃ x, IndexAddrQ P t (.d (.fp cs o)) (.d (.val (.int kd m))) x ∧ K x) = ∃ q, elA P t = some q ∧ 0 ≤ m ∧ m < q.1 ∧ K (.d (.fp cs (o + m.toNat * q.2))) := by
  refine propext ⟨?_, ?_⟩
  · rintro ⟨x, ⟨kd', i, len, e', s', h1, h2, h3, h4⟩, h5⟩
    cases h1
    cases len with
    | none => exact h4.elim
    | some n =>
      simp only at h4
      obtain ⟨h6, rfl⟩ := h4
      exact ⟨(n, s'), elA_spec.2 ⟨e', h2⟩, h3, h6, h5⟩
  · rintro ⟨⟨n, s⟩, h0, h1, h2, h3⟩
    obtain ⟨e, h⟩ := elA_spec.1 h0
    exact ⟨_, ⟨kd, m, some n, e, s, rfl, h, h1, h2, rfl⟩, h3⟩
theorem ia_op {kd : IntKind} {m : Int} : (∃ x, IndexAddrQ P t (.op id o) (.d (.val (.int kd m))) x ∧ K x) = ∃ q, elA P t = some q ∧ 0 ≤ m ∧ m < q.1 ∧ K (.op id (o + m.toNat * q.2)) := by
  refine propext ⟨?_, ?_⟩
  · rintro ⟨x, ⟨kd', i, len, e', s', h1, h2, h3, h4⟩, h5⟩
    cases h1
    cases len with
    | none => exact h4.elim
    | some n =>
      simp only at h4
      obtain ⟨h6, rfl⟩ := h4
      exact ⟨(n, s'), elA_spec.2 ⟨e', h2⟩, h3, h6, h5⟩
  · rintro ⟨⟨n, s⟩, h0, h1, h2, h3⟩
    obtain ⟨e, h⟩ := elA_spec.1 h0
    exact ⟨_, ⟨kd, m, some n, e, s, rfl, h, h1, h2, rfl⟩, h3⟩
theorem sl_fs {lo hi : Option AV} : (∃ x, SliceQ P H N t (.d (.fs cs n)) lo hi x ∧ K x) = ∃ s, elS P t = some s ∧ ∃ l, sbI 0 lo = some l ∧ ∃ h, sbI n hi = some h ∧ 0 ≤ l ∧ l ≤ h ∧ h ≤ n ∧ K (.d (.fs ((cs.drop (l.toNat * s)).take ((h - l).toNat * s)) (h - l).toNat)) := by
  refine propext ⟨?_, ?_⟩
  · rintro ⟨x, ⟨e, s, l, h, he, h1, h2, h0, h3, h4, rfl⟩, h5⟩
    exact ⟨s, elS_spec.2 ⟨e, he⟩, l, h1, h, h2, h0, h3, h4, h5⟩
  · rintro ⟨s, he, l, h1, h, h2, h0, h3, h4, h5⟩
    obtain ⟨e, he⟩ := elS_spec.1 he
    exact ⟨_, ⟨e, s, l, h, he, h1, h2, h0, h3, h4, rfl⟩, h5⟩
theorem sl_os {lo hi : Option AV} : (∃ x, SliceQ P H N t (.os k id off n) lo hi x ∧ K x) = (elS P t = some k ∧ ∃ l, sbI 0 lo = some l ∧ ∃ h, sbI n hi = some h ∧ 0 ≤ l ∧ l ≤ h ∧ h ≤ n ∧ K (.os k id (off + l.toNat * k) (h - l).toNat)) := by
  refine propext ⟨?_, ?_⟩
  · rintro ⟨x, ⟨e, l, h, he, h1, h2, h0, h3, h4, rfl⟩, h5⟩
    exact ⟨elS_spec.2 ⟨e, he⟩, l, h1, h, h2, h0, h3, h4, h5⟩
  · rintro ⟨he, l, h1, h, h2, h0, h3, h4, h5⟩
    obtain ⟨e, he⟩ := elS_spec.1 he
    exact ⟨_, ⟨e, l, h, he, h1, h2, h0, h3, h4, rfl⟩, h5⟩
theorem sb_none {d : Int} : sbI d none = some d := rfl
theorem sb_some {d m : Int} {kd : IntKind} : sbI d (some (.d (.val (.int kd m)))) = some m := rfl
/-! ### Lengths -/
theorem len_fs : (∃ x, BuiltinQ P .len [t] [.d (.fs cs n)] x ∧ K x) = ∃ s, elS P t = some s ∧ K (.d (.val (.int .i64 n))) := by
  refine propext ⟨?_, ?_⟩
  · rintro ⟨x, ⟨m, ⟨_, ⟨e, s, h1⟩, rfl⟩, rfl⟩, h2⟩
    exact ⟨s, elS_spec.2 ⟨e, h1⟩, h2⟩
  · rintro ⟨s, h1, h2⟩
    obtain ⟨e, h1⟩ := elS_spec.1 h1
    exact ⟨_, ⟨n, ⟨by rw [h1]; simp, ⟨e, s, h1⟩, rfl⟩, rfl⟩, h2⟩
theorem len_os : (∃ x, BuiltinQ P .len [t] [.os k id off n] x ∧ K x) = ∃ s, elS P t = some s ∧ K (.d (.val (.int .i64 n))) := by
  refine propext ⟨?_, ?_⟩
  · rintro ⟨x, ⟨m, ⟨⟨e, s, h1⟩, rfl⟩, rfl⟩, h2⟩
    exact ⟨s, elS_spec.2 ⟨e, h1⟩, h2⟩
  · rintro ⟨s, h1, h2⟩
    obtain ⟨e, h1⟩ := elS_spec.1 h1
    exact ⟨_, ⟨n, ⟨⟨e, s, h1⟩, rfl⟩, rfl⟩, h2⟩
theorem len_val {ad : Option Addr} {cp : Nat} : (∃ x, BuiltinQ P .len [t] [.d (.val (.slice ad n cp))] x ∧ K x) = ∃ s, elS P t = some s ∧ K (.d (.val (.int .i64 n))) := by
  refine propext ⟨?_, ?_⟩
  · rintro ⟨x, ⟨m, ⟨⟨e, s, h1⟩, rfl⟩, rfl⟩, h2⟩
    exact ⟨s, elS_spec.2 ⟨e, h1⟩, h2⟩
  · rintro ⟨s, h1, h2⟩
    obtain ⟨e, h1⟩ := elS_spec.1 h1
    exact ⟨_, ⟨n, ⟨⟨e, s, h1⟩, rfl⟩, rfl⟩, h2⟩
theorem max_2 {ts : List TypeId} {k k' : IntKind} {a b : Int} : (∃ x, BuiltinQ P .max ts [.d (.val (.int k a)), .d (.val (.int k' b))] x ∧ K x) = K (.d (.val (.int k (max a b)))) := by simp [BuiltinQ]
theorem min_2 {ts : List TypeId} {k k' : IntKind} {a b : Int} : (∃ x, BuiltinQ P .min ts [.d (.val (.int k a)), .d (.val (.int k' b))] x ∧ K x) = K (.d (.val (.int k (min a b)))) := by simp [BuiltinQ]
/-! ### Numbers -/
variable {KV : Value → Prop} {a b : Int} {kk : IntKind}
theorem i64w {m : Int} (h1 : -9223372036854775808 ≤ m) (h2 : m < 9223372036854775808) : IntKind.i64.wrap m = m := by simp [IntKind.wrap, IntKind.bits, IntKind.signed]; omega
theorem b_add (h1 : -9223372036854775808 ≤ a + b) (h2 : a + b < 9223372036854775808) : (∃ r, binV P .add t (.int .i64 a) (.int .i64 b) = some r ∧ KV r) = KV (.int .i64 (a + b)) := by simp [binV, binI, i64w h1 h2]
theorem b_sub (h1 : -9223372036854775808 ≤ a - b) (h2 : a - b < 9223372036854775808) : (∃ r, binV P .sub t (.int .i64 a) (.int .i64 b) = some r ∧ KV r) = KV (.int .i64 (a - b)) := by simp [binV, binI, i64w h1 h2]
theorem b_mul (h1 : -9223372036854775808 ≤ a * b) (h2 : a * b < 9223372036854775808) : (∃ r, binV P .mul t (.int .i64 a) (.int .i64 b) = some r ∧ KV r) = KV (.int .i64 (a * b)) := by simp [binV, binI, i64w h1 h2]
theorem b_quo (h1 : 0 ≤ a) (h2 : 0 < b) (h3 : a < 9223372036854775808) : (∃ r, binV P .quo t (.int .i64 a) (.int .i64 b) = some r ∧ KV r) = KV (.int .i64 (a / b)) := by
  have e : a.tdiv b = a / b := Int.tdiv_eq_ediv_of_nonneg h1
  have h4 : 0 ≤ a / b := Int.ediv_nonneg h1 (by omega)
  have h5 : a / b ≤ a := Int.ediv_le_self _ h1
  simp [binV, binI, e, i64w (show -9223372036854775808 ≤ a / b by omega) (show a / b < 9223372036854775808 by omega), show b ≠ 0 by omega]
theorem b_rem (h1 : 0 ≤ a) (h2 : 0 < b) : (∃ r, binV P .rem t (.int kk a) (.int kk b) = some r ∧ KV r) = KV (.int kk (a % b)) := by
  have e : a.tmod b = a % b := Int.tmod_eq_emod_of_nonneg h1
  simp [binV, binI, e, show b ≠ 0 by omega]
theorem b_eql : (∃ r, binV P .eql t (.int kk a) (.int kk b) = some r ∧ KV r) = KV (.bool (a == b)) := by simp [binV, binI, cmpV]
theorem b_neq : (∃ r, binV P .neq t (.int kk a) (.int kk b) = some r ∧ KV r) = KV (.bool (a != b)) := by simp [binV, binI, cmpV]
theorem b_lss : (∃ r, binV P .lss t (.int kk a) (.int kk b) = some r ∧ KV r) = KV (.bool (decide (a < b))) := by simp [binV, binI, cmpV]
theorem b_leq : (∃ r, binV P .leq t (.int kk a) (.int kk b) = some r ∧ KV r) = KV (.bool (decide (a ≤ b))) := by simp [binV, binI, cmpV]
theorem b_gtr : (∃ r, binV P .gtr t (.int kk a) (.int kk b) = some r ∧ KV r) = KV (.bool (decide (b < a))) := by simp [binV, binI, cmpV]
theorem b_geq : (∃ r, binV P .geq t (.int kk a) (.int kk b) = some r ∧ KV r) = KV (.bool (decide (b ≤ a))) := by simp [binV, binI, cmpV]
theorem b_beql {a b : Bool} (h : isBoolT P t = true) : (∃ r, binV P .eql t (.bool a) (.bool b) = some r ∧ KV r) = KV (.bool (a == b)) := by simp [binV, h]
theorem b_bneq {a b : Bool} (h : isBoolT P t = true) : (∃ r, binV P .neq t (.bool a) (.bool b) = some r ∧ KV r) = KV (.bool (a != b)) := by simp [binV, h]; rfl
theorem b_shl (h : 0 ≤ b) : (∃ r, binV P .shl t (.int .i64 a) (.int kk b) = some r ∧ KV r) = KV (.int .i64 (IntKind.i64.wrap (a * 2 ^ min b.toNat 64))) := by simp [binV, binI, show ¬ b < 0 by omega, IntKind.bits]
theorem b_shr (h : 0 ≤ b) : (∃ r, binV P .shr t (.int .i64 a) (.int kk b) = some r ∧ KV r) = KV (.int .i64 (a.fdiv (2 ^ min b.toNat 64))) := by simp [binV, binI, show ¬ b < 0 by omega, IntKind.bits]
theorem b_and : (∃ r, binV P .and t (.int .i64 a) (.int .i64 b) = some r ∧ KV r) = KV (.int .i64 (bitV .and .i64 a b)) := by simp [binV, binI]
theorem b_or : (∃ r, binV P .or t (.int .i64 a) (.int .i64 b) = some r ∧ KV r) = KV (.int .i64 (bitV .or .i64 a b)) := by simp [binV, binI]
theorem b_xor : (∃ r, binV P .xor t (.int .i64 a) (.int .i64 b) = some r ∧ KV r) = KV (.int .i64 (bitV .xor .i64 a b)) := by simp [binV, binI]
end

/-! ### The run, operation by operation -/
section
variable {P : Program} {fr : List FuncId} {ops l : List Oper} {τ : Fr} {H : AHeap} {sh : List (Nat × Nat)} {N i : Nat} {d : Option Tmp} {ty : TypeId} {pos : String} {af : Array Edge} {K : Fr → AHeap → Prop} {KD : Fr → AHeap → List (Nat × Nat) → Prop}
theorem rT_move {y : Operand} : runT P fr ops (⟨d, .move y, ty, pos, af, none⟩ :: l) τ H K = (runT P fr ops l (τ.put d (evalA τ y)) H K) := (runT_q rfl).trans q_move
theorem rD_move {y : Operand} : runD P fr ops N i (⟨d, .move y, ty, pos, af, none⟩ :: l) τ H sh KD = (runD P fr ops N (i + 1) l (τ.put d (evalA τ y)) H sh KD) := (runD_q rfl).trans q_move
theorem rT_assign {y : Operand} : runT P fr ops (⟨d, .assign y, ty, pos, af, none⟩ :: l) τ H K = (runT P fr ops l (τ.put d (evalA τ y)) H K) := (runT_q rfl).trans q_assign
theorem rD_assign {y : Operand} : runD P fr ops N i (⟨d, .assign y, ty, pos, af, none⟩ :: l) τ H sh KD = (runD P fr ops N (i + 1) l (τ.put d (evalA τ y)) H sh KD) := (runD_q rfl).trans q_assign
theorem rT_pick {c a b : Operand} : runT P fr ops (⟨d, .pick c a b, ty, pos, af, none⟩ :: l) τ H K = (∃ t, evalA τ c = .d (.val (.bool t)) ∧ runT P fr ops l (τ.put d (if t then evalA τ a else evalA τ b)) H K) := (runT_q rfl).trans q_pick
theorem rD_pick {c a b : Operand} : runD P fr ops N i (⟨d, .pick c a b, ty, pos, af, none⟩ :: l) τ H sh KD = (∃ t, evalA τ c = .d (.val (.bool t)) ∧ runD P fr ops N (i + 1) l (τ.put d (if t then evalA τ a else evalA τ b)) H sh KD) := (runD_q rfl).trans q_pick
theorem rT_load {t : TypeId} {y : Operand} : runT P fr ops (⟨d, .load t y, ty, pos, af, none⟩ :: l) τ H K = (∃ x, LoadQ P H H.length t (evalA τ y) x ∧ runT P fr ops l (τ.put d x) H K) := (runT_q rfl).trans q_load
theorem rD_load {t : TypeId} {y : Operand} : runD P fr ops N i (⟨d, .load t y, ty, pos, af, none⟩ :: l) τ H sh KD = (∃ x, LoadQ P H N t (evalA τ y) x ∧ runD P fr ops N (i + 1) l (τ.put d x) H sh KD) := (runD_q rfl).trans q_load
theorem rT_fa {t : TypeId} {y : Operand} {f : Nat} : runT P fr ops (⟨d, .fieldAddr t y f, ty, pos, af, none⟩ :: l) τ H K = (∃ x, FieldAddrQ P t f (evalA τ y) x ∧ runT P fr ops l (τ.put d x) H K) := (runT_q rfl).trans q_fieldAddr
theorem rD_fa {t : TypeId} {y : Operand} {f : Nat} : runD P fr ops N i (⟨d, .fieldAddr t y f, ty, pos, af, none⟩ :: l) τ H sh KD = (∃ x, FieldAddrQ P t f (evalA τ y) x ∧ runD P fr ops N (i + 1) l (τ.put d x) H sh KD) := (runD_q rfl).trans q_fieldAddr
theorem rT_field {t : TypeId} {y : Operand} {f : Nat} : runT P fr ops (⟨d, .field t y f, ty, pos, af, none⟩ :: l) τ H K = (∃ x, FieldQ P t f (evalA τ y) x ∧ runT P fr ops l (τ.put d x) H K) := (runT_q rfl).trans q_field
theorem rD_field {t : TypeId} {y : Operand} {f : Nat} : runD P fr ops N i (⟨d, .field t y f, ty, pos, af, none⟩ :: l) τ H sh KD = (∃ x, FieldQ P t f (evalA τ y) x ∧ runD P fr ops N (i + 1) l (τ.put d x) H sh KD) := (runD_q rfl).trans q_field
theorem rT_ia {t : TypeId} {y z : Operand} : runT P fr ops (⟨d, .indexAddr t y z, ty, pos, af, none⟩ :: l) τ H K = (∃ x, IndexAddrQ P t (evalA τ y) (evalA τ z) x ∧ runT P fr ops l (τ.put d x) H K) := (runT_q rfl).trans q_indexAddr
theorem rD_ia {t : TypeId} {y z : Operand} : runD P fr ops N i (⟨d, .indexAddr t y z, ty, pos, af, none⟩ :: l) τ H sh KD = (∃ x, IndexAddrQ P t (evalA τ y) (evalA τ z) x ∧ runD P fr ops N (i + 1) l (τ.put d x) H sh KD) := (runD_q rfl).trans q_indexAddr
theorem rT_index {t : TypeId} {y z : Operand} : runT P fr ops (⟨d, .index t y z, ty, pos, af, none⟩ :: l) τ H K = (∃ x, IndexQ P t (evalA τ y) (evalA τ z) x ∧ runT P fr ops l (τ.put d x) H K) := (runT_q rfl).trans q_index
theorem rD_index {t : TypeId} {y z : Operand} : runD P fr ops N i (⟨d, .index t y z, ty, pos, af, none⟩ :: l) τ H sh KD = (∃ x, IndexQ P t (evalA τ y) (evalA τ z) x ∧ runD P fr ops N (i + 1) l (τ.put d x) H sh KD) := (runD_q rfl).trans q_index
theorem rT_slice {t : TypeId} {y : Operand} {lo hi : Option Operand} : runT P fr ops (⟨d, .slice t y lo hi none, ty, pos, af, none⟩ :: l) τ H K = (∃ x, SliceQ P H H.length t (evalA τ y) (lo.map (evalA τ)) (hi.map (evalA τ)) x ∧ runT P fr ops l (τ.put d x) H K) := (runT_q rfl).trans q_slice
theorem rD_slice {t : TypeId} {y : Operand} {lo hi : Option Operand} : runD P fr ops N i (⟨d, .slice t y lo hi none, ty, pos, af, none⟩ :: l) τ H sh KD = (∃ x, SliceQ P H N t (evalA τ y) (lo.map (evalA τ)) (hi.map (evalA τ)) x ∧ runD P fr ops N (i + 1) l (τ.put d x) H sh KD) := (runD_q rfl).trans q_slice
theorem rT_bin {op : BinOp} {t t' : TypeId} {y z : Operand} : runT P fr ops (⟨d, .binOp op t y z t', ty, pos, af, none⟩ :: l) τ H K = (BinK P op t (evalA τ y) (evalA τ z) fun x => runT P fr ops l (τ.put d x) H K) := (runT_q rfl).trans q_binOp
theorem rD_bin {op : BinOp} {t t' : TypeId} {y z : Operand} : runD P fr ops N i (⟨d, .binOp op t y z t', ty, pos, af, none⟩ :: l) τ H sh KD = (BinK P op t (evalA τ y) (evalA τ z) fun x => runD P fr ops N (i + 1) l (τ.put d x) H sh KD) := (runD_q rfl).trans q_binOp
theorem rT_un {op : UnOp} {t : TypeId} {y : Operand} : runT P fr ops (⟨d, .unOp op t y, ty, pos, af, none⟩ :: l) τ H K = (UnK op (evalA τ y) fun x => runT P fr ops l (τ.put d x) H K) := (runT_q rfl).trans q_unOp
theorem rD_un {op : UnOp} {t : TypeId} {y : Operand} : runD P fr ops N i (⟨d, .unOp op t y, ty, pos, af, none⟩ :: l) τ H sh KD = (UnK op (evalA τ y) fun x => runD P fr ops N (i + 1) l (τ.put d x) H sh KD) := (runD_q rfl).trans q_unOp
theorem rT_conv {s t : TypeId} {y : Operand} : runT P fr ops (⟨d, .convert s t y, ty, pos, af, none⟩ :: l) τ H K = (ConvK P s t (evalA τ y) fun x => runT P fr ops l (τ.put d x) H K) := (runT_q rfl).trans q_convert
theorem rD_conv {s t : TypeId} {y : Operand} : runD P fr ops N i (⟨d, .convert s t y, ty, pos, af, none⟩ :: l) τ H sh KD = (ConvK P s t (evalA τ y) fun x => runD P fr ops N (i + 1) l (τ.put d x) H sh KD) := (runD_q rfl).trans q_convert
theorem rT_build {t : TypeId} {ps : Array (Nat × Operand)} : runT P fr ops (⟨d, .build t ps, ty, pos, af, none⟩ :: l) τ H K = (∃ x, BuildQ P t (ps.toList.map fun p => (p.1, evalA τ p.2)) x ∧ runT P fr ops l (τ.put d x) H K) := (runT_q rfl).trans q_build
theorem rD_build {t : TypeId} {ps : Array (Nat × Operand)} : runD P fr ops N i (⟨d, .build t ps, ty, pos, af, none⟩ :: l) τ H sh KD = (∃ x, BuildQ P t (ps.toList.map fun p => (p.1, evalA τ p.2)) x ∧ runD P fr ops N (i + 1) l (τ.put d x) H sh KD) := (runD_q rfl).trans q_build
theorem rT_extract {y : Operand} {ix : Nat} : runT P fr ops (⟨d, .extract y ix, ty, pos, af, none⟩ :: l) τ H K = (∃ x, (∃ vs, evalA τ y = .tup vs ∧ vs[ix]? = some x) ∧ runT P fr ops l (τ.put d x) H K) := (runT_q rfl).trans q_extract
theorem rD_extract {y : Operand} {ix : Nat} : runD P fr ops N i (⟨d, .extract y ix, ty, pos, af, none⟩ :: l) τ H sh KD = (∃ x, (∃ vs, evalA τ y = .tup vs ∧ vs[ix]? = some x) ∧ runD P fr ops N (i + 1) l (τ.put d x) H sh KD) := (runD_q rfl).trans q_extract
theorem rT_mf {fn : Fn} {fi ca : Array Operand} : runT P fr ops (⟨d, .makeFunc fn fi ca, ty, pos, af, none⟩ :: l) τ H K = (runT P fr ops l (τ.put d (.clo fn (fi.toList.map (evalA τ)) (ca.toList.map (evalA τ)))) H K) := (runT_q rfl).trans q_makeFunc
theorem rD_mf {fn : Fn} {fi ca : Array Operand} : runD P fr ops N i (⟨d, .makeFunc fn fi ca, ty, pos, af, none⟩ :: l) τ H sh KD = (runD P fr ops N (i + 1) l (τ.put d (.clo fn (fi.toList.map (evalA τ)) (ca.toList.map (evalA τ)))) H sh KD) := (runD_q rfl).trans q_makeFunc
theorem rT_len {args : Array Operand} {ts : Array TypeId} : runT P fr ops (⟨d, .call ⟨.builtin .len, args, ts⟩, ty, pos, af, none⟩ :: l) τ H K = (∃ x, BuiltinQ P .len ts.toList (args.toList.map (evalA τ)) x ∧ runT P fr ops l (τ.put d x) H K) := (runT_q rfl).trans q_builtin
theorem rD_len {args : Array Operand} {ts : Array TypeId} : runD P fr ops N i (⟨d, .call ⟨.builtin .len, args, ts⟩, ty, pos, af, none⟩ :: l) τ H sh KD = (∃ x, BuiltinQ P .len ts.toList (args.toList.map (evalA τ)) x ∧ runD P fr ops N (i + 1) l (τ.put d x) H sh KD) := (runD_q rfl).trans q_builtin
theorem rT_max {args : Array Operand} {ts : Array TypeId} : runT P fr ops (⟨d, .call ⟨.builtin .max, args, ts⟩, ty, pos, af, none⟩ :: l) τ H K = (∃ x, BuiltinQ P .max ts.toList (args.toList.map (evalA τ)) x ∧ runT P fr ops l (τ.put d x) H K) := (runT_q rfl).trans q_builtin
theorem rD_max {args : Array Operand} {ts : Array TypeId} : runD P fr ops N i (⟨d, .call ⟨.builtin .max, args, ts⟩, ty, pos, af, none⟩ :: l) τ H sh KD = (∃ x, BuiltinQ P .max ts.toList (args.toList.map (evalA τ)) x ∧ runD P fr ops N (i + 1) l (τ.put d x) H sh KD) := (runD_q rfl).trans q_builtin
theorem rT_min {args : Array Operand} {ts : Array TypeId} : runT P fr ops (⟨d, .call ⟨.builtin .min, args, ts⟩, ty, pos, af, none⟩ :: l) τ H K = (∃ x, BuiltinQ P .min ts.toList (args.toList.map (evalA τ)) x ∧ runT P fr ops l (τ.put d x) H K) := (runT_q rfl).trans q_builtin
theorem rD_min {args : Array Operand} {ts : Array TypeId} : runD P fr ops N i (⟨d, .call ⟨.builtin .min, args, ts⟩, ty, pos, af, none⟩ :: l) τ H sh KD = (∃ x, BuiltinQ P .min ts.toList (args.toList.map (evalA τ)) x ∧ runD P fr ops N (i + 1) l (τ.put d x) H sh KD) := (runD_q rfl).trans q_builtin
theorem rT_call0 {f : FuncId} {args : Array Operand} {ts : Array TypeId} : runT P [] ops (⟨d, .call ⟨.value (.func f), args, ts⟩, ty, pos, af, none⟩ :: l) τ H K = ((∃ x, CallQ P H.length H (evalA τ (.func f)) (args.toList.map (evalA τ)) x ∧ runT P [] ops l (τ.put d x) H K) ∨ ∃ n fi ca, calleeOf (evalA τ (.func f)) = some (n, fi, ca) ∧ (IcS P n (fi ++ args.toList.map (evalA τ) ++ ca) H (fun x H' => runT P [] ops l (τ.put d x) H' K) ∨ ∃ ds Q, AV.toD.toDs (fi ++ args.toList.map (evalA τ) ++ ca) = some ds ∧ RCalls P n ds Q ∧ ∀ x, Q x → runT P [] ops l (τ.put d x) H K)) := runT_call rfl
theorem rD_call0 {f : FuncId} {args : Array Operand} {ts : Array TypeId} : runD P [] ops N i (⟨d, .call ⟨.value (.func f), args, ts⟩, ty, pos, af, none⟩ :: l) τ H sh KD = (∃ x, CallQ P N H (evalA τ (.func f)) (args.toList.map (evalA τ)) x ∧ runD P [] ops N (i + 1) l (τ.put d x) H sh KD) := (runD_q rfl).trans q_call
theorem rT_callt {f : Nat} {args : Array Operand} {ts : Array TypeId} : runT P fr ops (⟨d, .call ⟨.value (.tmp f), args, ts⟩, ty, pos, af, none⟩ :: l) τ H K = ((∃ x, CallQ P H.length H (evalA τ (.tmp f)) (args.toList.map (evalA τ)) x ∧ runT P fr ops l (τ.put d x) H K) ∨ ∃ n fi ca, calleeOf (evalA τ (.tmp f)) = some (n, fi, ca) ∧ (IcS P n (fi ++ args.toList.map (evalA τ) ++ ca) H (fun x H' => runT P fr ops l (τ.put d x) H' K) ∨ ∃ ds Q, AV.toD.toDs (fi ++ args.toList.map (evalA τ) ++ ca) = some ds ∧ RCalls P n ds Q ∧ ∀ x, Q x → runT P fr ops l (τ.put d x) H K)) := runT_call rfl
theorem rD_callt {f : Nat} {args : Array Operand} {ts : Array TypeId} : runD P fr ops N i (⟨d, .call ⟨.value (.tmp f), args, ts⟩, ty, pos, af, none⟩ :: l) τ H sh KD = (∃ x, CallQ P N H (evalA τ (.tmp f)) (args.toList.map (evalA τ)) x ∧ runD P fr ops N (i + 1) l (τ.put d x) H sh KD) := (runD_q rfl).trans q_call
theorem rT_box {t : TypeId} {y : Operand} : runT P fr ops (⟨d, .box t y, ty, pos, af, none⟩ :: l) τ H K = ∃ x H', OpA P false H.length (evalA τ) (.box t y) (H ++ [.free]) [] x H' [] ∧ runT P fr ops l (τ.put d x) H' K := runT_1 rfl
theorem rD_box {t : TypeId} {y : Operand} : runD P fr ops N i (⟨d, .box t y, ty, pos, af, none⟩ :: l) τ H sh KD = ∃ x H' sh', (H[N + rkOf fr ops i]? = some .free ∧ (∀ p ∈ sh, p.1 ≠ N + rkOf fr ops i ∧ p.2 ≠ N + rkOf fr ops i) ∧ appOk N (alOf fr ops ⟨d, .box t y, ty, pos, af, none⟩) (evalA τ) (.box t y) ∧ OpA P true (N + rkOf fr ops i) (evalA τ) (.box t y) H sh x H' sh') ∧ runD P fr ops N (i + 1) l (τ.put d x) H' sh' KD := runD_1 rfl
theorem rT_alloc {t : TypeId} : runT P fr ops (⟨d, .alloc t, ty, pos, af, none⟩ :: l) τ H K = ∃ x H', OpA P false H.length (evalA τ) (.alloc t) (H ++ [.free]) [] x H' [] ∧ runT P fr ops l (τ.put d x) H' K := runT_1 rfl
theorem rD_alloc {t : TypeId} : runD P fr ops N i (⟨d, .alloc t, ty, pos, af, none⟩ :: l) τ H sh KD = ∃ x H' sh', (H[N + rkOf fr ops i]? = some .free ∧ (∀ p ∈ sh, p.1 ≠ N + rkOf fr ops i ∧ p.2 ≠ N + rkOf fr ops i) ∧ appOk N (alOf fr ops ⟨d, .alloc t, ty, pos, af, none⟩) (evalA τ) (.alloc t) ∧ OpA P true (N + rkOf fr ops i) (evalA τ) (.alloc t) H sh x H' sh') ∧ runD P fr ops N (i + 1) l (τ.put d x) H' sh' KD := runD_1 rfl
theorem rT_make {t : TypeId} {y z : Operand} : runT P fr ops (⟨d, .makeSlice t y z, ty, pos, af, none⟩ :: l) τ H K = ∃ x H', OpA P false H.length (evalA τ) (.makeSlice t y z) (H ++ [.free]) [] x H' [] ∧ runT P fr ops l (τ.put d x) H' K := runT_1 rfl
theorem rD_make {t : TypeId} {y z : Operand} : runD P fr ops N i (⟨d, .makeSlice t y z, ty, pos, af, none⟩ :: l) τ H sh KD = ∃ x H' sh', (H[N + rkOf fr ops i]? = some .free ∧ (∀ p ∈ sh, p.1 ≠ N + rkOf fr ops i ∧ p.2 ≠ N + rkOf fr ops i) ∧ appOk N (alOf fr ops ⟨d, .makeSlice t y z, ty, pos, af, none⟩) (evalA τ) (.makeSlice t y z) ∧ OpA P true (N + rkOf fr ops i) (evalA τ) (.makeSlice t y z) H sh x H' sh') ∧ runD P fr ops N (i + 1) l (τ.put d x) H' sh' KD := runD_1 rfl
theorem rT_bs {t : TypeId} {n : Nat} {ps : Array (Nat × Operand)} : runT P fr ops (⟨d, .buildSlice t n ps, ty, pos, af, none⟩ :: l) τ H K = ∃ x H', OpA P false H.length (evalA τ) (.buildSlice t n ps) (H ++ [.free]) [] x H' [] ∧ runT P fr ops l (τ.put d x) H' K := runT_1 rfl
theorem rD_bs {t : TypeId} {n : Nat} {ps : Array (Nat × Operand)} : runD P fr ops N i (⟨d, .buildSlice t n ps, ty, pos, af, none⟩ :: l) τ H sh KD = ∃ x H' sh', (H[N + rkOf fr ops i]? = some .free ∧ (∀ p ∈ sh, p.1 ≠ N + rkOf fr ops i ∧ p.2 ≠ N + rkOf fr ops i) ∧ appOk N (alOf fr ops ⟨d, .buildSlice t n ps, ty, pos, af, none⟩) (evalA τ) (.buildSlice t n ps) ∧ OpA P true (N + rkOf fr ops i) (evalA τ) (.buildSlice t n ps) H sh x H' sh') ∧ runD P fr ops N (i + 1) l (τ.put d x) H' sh' KD := runD_1 rfl
theorem rT_app {args : Array Operand} {ts : Array TypeId} : runT P fr ops (⟨d, .call ⟨.builtin .append, args, ts⟩, ty, pos, af, none⟩ :: l) τ H K = ∃ x H', OpA P false H.length (evalA τ) (.call ⟨.builtin .append, args, ts⟩) (H ++ [.free]) [] x H' [] ∧ runT P fr ops l (τ.put d x) H' K := runT_3 rfl
theorem rD_app {args : Array Operand} {ts : Array TypeId} : runD P fr ops N i (⟨d, .call ⟨.builtin .append, args, ts⟩, ty, pos, af, none⟩ :: l) τ H sh KD = ∃ x H' sh', (H[N + rkOf fr ops i]? = some .free ∧ (∀ p ∈ sh, p.1 ≠ N + rkOf fr ops i ∧ p.2 ≠ N + rkOf fr ops i) ∧ appOk N (alOf fr ops ⟨d, .call ⟨.builtin .append, args, ts⟩, ty, pos, af, none⟩) (evalA τ) (.call ⟨.builtin .append, args, ts⟩) ∧ OpA P true (N + rkOf fr ops i) (evalA τ) (.call ⟨.builtin .append, args, ts⟩) H sh x H' sh') ∧ runD P fr ops N (i + 1) l (τ.put d x) H' sh' KD := runD_3 rfl
theorem rT_store {t : TypeId} {x y : Operand} : runT P fr ops (⟨d, .store t x y, ty, pos, af, none⟩ :: l) τ H K = ∃ H', OpD P (evalA τ) (.store t x y) H [] 0 H' ∧ runT P fr ops l (τ.put d (.d (.val undef))) H' K := runT_d rfl
theorem rD_store {t : TypeId} {x y : Operand} : runD P fr ops N i (⟨d, .store t x y, ty, pos, af, none⟩ :: l) τ H sh KD = ∃ H', OpD P (evalA τ) (.store t x y) H sh (if freshSt ops ⟨d, .store t x y, ty, pos, af, none⟩ then N else 0) H' ∧ runD P fr ops N (i + 1) l (τ.put d (.d (.val undef))) H' sh KD := runD_d rfl
end
end Go.Proofs.Ytinefghmmbggeaa

/- Of no program: the run of a region that draws, with the numbers of its objects kept; the laying operations as equations. -/
set_option linter.unusedVariables false
set_option linter.unusedSimpArgs false
namespace Go.Proofs.Ytinefghmmbggeaa
open Go Go.RowKit
section
variable {P : Program} {fr : List FuncId} {ops : List Oper} {N : Nat}
/-- The objects of the operations that these edges wait for. -/
def alsL (m : List (Nat × Nat)) : List Edge → List Nat
  | [] => []
  | e :: l => if Region.binds .any e then (match m.lookup e.on with | some r => r :: alsL m l | none => alsL m l) else alsL m l
def coreE (P : Program) (fr : List FuncId) (N r : Nat) (fresh : Bool) (m : List (Nat × Nat)) (o : Oper) (τ : Fr) (H : AHeap) (sh : List (Nat × Nat)) (K : AV → AHeap → List (Nat × Nat) → Prop) : Prop :=
  match kOf fr o.op with
  | 0 => ∃ x, OpQ P N H (evalA τ) o.op x ∧ K x H sh
  | 2 => ∃ H', OpD P (evalA τ) o.op H sh (if fresh then N else 0) H' ∧ K (.d (.val undef)) H' sh
  | 4 => ∃ x H', OpM P (evalA τ) o.op H sh x H' ∧ K x H' sh
  | _ => H[N + r]? = some .free ∧ (∀ p ∈ sh, p.1 ≠ N + r ∧ p.2 ≠ N + r) ∧ appOk N (alsL m o.after.toList) (evalA τ) o.op ∧ ∃ x H' sh', OpA P true (N + r) (evalA τ) o.op H sh x H' sh' ∧ K x H' sh'
/-- In the order of the text; r objects have been laid, m says by which operations. -/
def runE (P : Program) (fr : List FuncId) (ops : List Oper) (N : Nat) : Nat → Nat → List (Nat × Nat) → List Oper → Fr → AHeap → List (Nat × Nat) → (Fr → AHeap → List (Nat × Nat) → Prop) → Prop
  | _, _, _, [], τ, H, sh, K => K τ H sh
  | i, r, m, o :: l, τ, H, sh, K => ∃ b, guardA ops τ o = some b ∧
      (b = true → coreE P fr N r (freshSt ops o) m o τ H sh fun x H' sh' => runE P fr ops N (i + 1) (if lays fr o then r + 1 else r) (if lays fr o then (i, r) :: m else m) l (τ.put o.dst x) H' sh' K) ∧
      (b = false → runE P fr ops N (i + 1) (if lays fr o then r + 1 else r) (if lays fr o then (i, r) :: m else m) l (τ.put o.dst (.d (.val undef))) H sh K)
theorem alsL_sub {m : List (Nat × Nat)} {al : List Nat} : ∀ (l : List Edge), (∀ e ∈ l, Region.binds .any e = true → ∀ r, m.lookup e.on = some r → r ∈ al) → ∀ r ∈ alsL m l, r ∈ al
  | [], _, r, hr => by cases hr
  | e :: l, h, r, hr => by
    have ih := alsL_sub (m := m) (al := al) l fun e' he' => h e' (List.mem_cons_of_mem _ he')
    unfold alsL at hr
    split at hr
    · rename_i hb
      split at hr
      · rename_i r' hl
        rcases List.mem_cons.1 hr with rfl | hr
        · exact h e List.mem_cons_self hb _ hl
        · exact ih r hr
      · exact ih r hr
    · exact ih r hr
theorem rk_succ {i : Nat} {o : Oper} (h : ops[i]? = some o) : rkOf fr ops (i + 1) = if lays fr o then rkOf fr ops i + 1 else rkOf fr ops i := by
  unfold rkOf
  obtain ⟨hi, rfl⟩ := List.getElem?_eq_some_iff.1 h
  rw [List.take_succ_eq_append_getElem hi, List.countP_append, List.countP_singleton]
  split <;> rfl
theorem runE_runD {K : Fr → AHeap → List (Nat × Nat) → Prop} : ∀ (l : List Oper) (i r : Nat) (m : List (Nat × Nat)) (τ : Fr) (H : AHeap) (sh : List (Nat × Nat)), (∀ j, l[j]? = ops[i + j]?) → r = rkOf fr ops i →
    (∀ k q, m.lookup k = some q → ∃ o, ops[k]? = some o ∧ lays fr o = true ∧ q = rkOf fr ops k) → runE P fr ops N i r m l τ H sh K → runD P fr ops N i l τ H sh K
  | [], _, _, _, _, _, _, _, _, _, h => h
  | o :: l, i, r, m, τ, H, sh, hl, hr, hm, h => by
    have h0 : ops[i]? = some o := by simpa using (hl 0).symm
    have hl' : ∀ j, l[j]? = ops[i + 1 + j]? := fun j => by have := hl (j + 1); simpa [Nat.add_assoc, Nat.add_comm 1 j] using this
    have hr' : (if lays fr o then r + 1 else r) = rkOf fr ops (i + 1) := by rw [rk_succ h0, hr]
    have hm' : ∀ k q, (if lays fr o then (i, r) :: m else m).lookup k = some q → ∃ o, ops[k]? = some o ∧ lays fr o = true ∧ q = rkOf fr ops k := by
      intro k q hk
      split at hk
      · rename_i hla
        rw [List.lookup_cons] at hk
        split at hk
        · rename_i e
          cases hk
          have e' : k = i := by simpa using e
          subst e'
          exact ⟨o, h0, hla, hr⟩
        · exact hm k q hk
      · exact hm k q hk
    have ih := fun τ' H' sh' hh => runE_runD (K := K) l (i + 1) _ _ τ' H' sh' hl' hr' hm' hh
    obtain ⟨b, hg, ht, hf⟩ := h
    refine ⟨b, hg, fun hb => ?_, fun hb => ih _ _ _ (hf hb)⟩
    have ht := ht hb
    unfold coreE at ht
    unfold eff
    simp only [if_true]
    split at ht
    · rename_i hk
      obtain ⟨x, hq, hh⟩ := ht
      exact ⟨x, H, sh, by simp only [hk]; exact ⟨hq, trivial, trivial⟩, ih _ _ _ hh⟩
    · rename_i hk
      obtain ⟨H', hq, hh⟩ := ht
      exact ⟨_, H', sh, by simp only [hk]; exact ⟨hq, trivial, trivial⟩, ih _ _ _ hh⟩
    · rename_i hk
      obtain ⟨x, H', hq, hh⟩ := ht
      exact ⟨x, H', sh, by simp only [hk]; exact ⟨hq, trivial⟩, ih _ _ _ hh⟩
    · rename_i hk0 hk2 hk4
      obtain ⟨h1, h2, h3, x, H', sh', hq, hh⟩ := ht
      have hal : appOk N (alOf fr ops o) (evalA τ) o.op := by
        have hsub : ∀ q ∈ alsL m o.after.toList, q ∈ alOf fr ops o := alsL_sub _ fun e he hb q hq => by
          obtain ⟨o', ho', hla, rfl⟩ := hm _ _ hq
          exact List.mem_map.2 ⟨e, List.mem_filter.2 ⟨he, by simp [hb, ho', hla]⟩, rfl⟩
        unfold appOk at h3 ⊢
        split
        · split
          · rename_i cl hcl _ hb
            simp only [hcl, hb] at h3
            intro y hy
            have := h3 y hy
            unfold baseOk at this ⊢
            split
            · rename_i e
              rw [e] at this
              simp only [Bool.or_eq_true, decide_eq_true_eq, List.contains_eq_mem] at this ⊢
              rcases this with h | h
              · exact .inl h
              · exact .inr (hsub _ h)
            · rfl
          · trivial
        · trivial
      subst hr
      refine ⟨x, H', sh', ?_, ih _ _ _ hh⟩
      rcases kOf_le fr o.op with hk | hk | hk | hk | hk
      · exact absurd hk hk0
      · simp only [hk]; exact ⟨h1, h2, hal, hq⟩
      · exact absurd hk hk2
      · simp only [hk]; exact ⟨h1, h2, hal, hq⟩
      · exact absurd hk hk4
end
section
variable {P : Program} {c : Cx} {τ : Fr} {H : AHeap} {Q : Exit → Fr → AHeap → Prop}
theorem awp_seq_e {fr : List FuncId} {id : Nat} {l : List Oper} {y : Code} {n : Nat} (hn : c.nt = n) (hm : P.follows .mixedOrders = true) (hd : dstOk n l = true) {q : Nat} (hq : l.countP (lays fr) = q) (hB : lexC fr l l.length 0 (Array.replicate l.length false) = true)
    (h : ∀ K : Fr → AHeap → Prop, (∀ τ H, AWp P c y Q τ H → K τ H) → runE P fr l H.length 0 0 [] l τ (H ++ List.replicate q .free) [] fun τ' H' sh' => K τ' (killAll sh' H')) : AWp P c (.seq (.region id l.toArray true) y) Q τ H := by
  subst hq
  exact awp_seq (awp_draw fr hm (hn ▸ hd) hB (runE_runD l 0 0 [] _ _ _ (fun j => by simp) rfl (fun k q h => by cases h) (h _ fun _ _ h => h)))
theorem awp_e {fr : List FuncId} {id : Nat} {l : List Oper} {n : Nat} (hn : c.nt = n) (hm : P.follows .mixedOrders = true) (hd : dstOk n l = true) {q : Nat} (hq : l.countP (lays fr) = q) (hB : lexC fr l l.length 0 (Array.replicate l.length false) = true)
    (h : ∀ K : Fr → AHeap → Prop, (∀ τ H, Q .normal τ H → K τ H) → runE P fr l H.length 0 0 [] l τ (H ++ List.replicate q .free) [] fun τ' H' sh' => K τ' (killAll sh' H')) : AWp P c (.region id l.toArray true) Q τ H := by
  subst hq
  exact awp_draw fr hm (hn ▸ hd) hB (runE_runD l 0 0 [] _ _ _ (fun j => by simp) rfl (fun k q h => by cases h) (h _ fun _ _ h => h))
end
end Go.Proofs.Ytinefghmmbggeaa
