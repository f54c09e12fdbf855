/- Of no program: regions that draw their order: the order of the text stands for all. -/
import Derived.Test.YtfpcailbobjfnaaA17
set_option linter.unusedVariables false
set_option linter.unusedSimpArgs false
namespace Go.Proofs.Ytfpcailbobjfnaa
open Go Go.RowKit
section
variable {P : Program} {c : Cx} {τ : Fr} {a : Act} {w w' : World} {pl pl' : List (Option (Nat × Nat))} {H H' : AHeap} {sh sh' : List (Nat × Nat)} {fr : List FuncId} {ops : List Oper} {N : Nat}
structure St where
  τ : Fr
  H : AHeap
  sh : List (Nat × Nat)
def lays (fr : List FuncId) (o : Oper) : Bool := kOf fr o.op == 1 || kOf fr o.op == 3
/-- Which of the region's objects operation i lays. -/
def rkOf (fr : List FuncId) (ops : List Oper) (i : Nat) : Nat := (ops.take i).countP (lays fr)
/-- A store through the address that an operation of the same region has made. -/
def freshSt (ops : List Oper) (o : Oper) : Bool :=
  match o.op with
  | .store _ (.tmp t) _ => ops.any fun p => p.dst == some t && (match p.op with | .alloc _ => true | _ => false)
  | _ => false
def baseOk (N : Nat) (al : List Nat) : AV → Bool
  | .os _ id _ _ => decide (id < N) || al.contains (id - N)
  | _ => true
/-- The objects of this region that an append may look at: those of the operations that it waits for. -/
def alOf (fr : List FuncId) (ops : List Oper) (o : Oper) : List Nat := (o.after.toList.filter fun e => Region.binds .any e && ((ops[e.on]?).any (lays fr))).map fun e => rkOf fr ops e.on
def appOk (N : Nat) (al : List Nat) (ρ : Operand → AV) (op : Op) : Prop :=
  match op with
  | .call c => match c.callee with
    | .builtin .append => ∀ y ∈ c.args.toList, baseOk N al (ρ y) = true
    | _ => True
  | _ => True
/-- What operation i does. -/
def eff (P : Program) (fr : List FuncId) (ops : List Oper) (N i : Nat) (o : Oper) (b : Bool) (ρ : Operand → AV) (H : AHeap) (sh : List (Nat × Nat)) (x : AV) (H' : AHeap) (sh' : List (Nat × Nat)) : Prop :=
  if b then match kOf fr o.op with
    | 0 => OpQ P N H ρ o.op x ∧ H' = H ∧ sh' = sh
    | 2 => OpD P ρ o.op H sh (if freshSt ops o then N else 0) H' ∧ x = .d (.val undef) ∧ sh' = sh
    | 4 => OpM P ρ o.op H sh x H' ∧ sh' = sh
    | _ => H[N + rkOf fr ops i]? = some .free ∧ (∀ p ∈ sh, p.1 ≠ N + rkOf fr ops i ∧ p.2 ≠ N + rkOf fr ops i) ∧ appOk N (alOf fr ops o) ρ o.op ∧ OpA P true (N + rkOf fr ops i) ρ o.op H sh x H' sh'
  else x = .d (.val undef) ∧ H' = H ∧ sh' = sh
def stepA (P : Program) (fr : List FuncId) (ops : List Oper) (N i : Nat) (σ σ' : St) : Prop :=
  ∃ o b x H' sh', ops[i]? = some o ∧ guardA ops σ.τ o = some b ∧ eff P fr ops N i o b (evalA σ.τ) σ.H σ.sh x H' sh' ∧ σ' = ⟨σ.τ.put o.dst x, H', sh'⟩
def AnyA (P : Program) (fr : List FuncId) (ops : List Oper) (N : Nat) (K : St → Prop) : Nat → Array Bool → St → Prop
  | 0, listed, σ => Region.ready .any ops.toArray listed = [] ∧ K σ
  | fuel + 1, listed, σ => (Region.ready .any ops.toArray listed = [] → K σ) ∧ ∀ i ∈ Region.ready .any ops.toArray listed, ∃ σ', stepA P fr ops N i σ σ' ∧ AnyA P fr ops N K fuel (listed.setIfInBounds i true) σ'
theorem AnyA_sound {K : St → Prop} {Q : Exit → Act → World → Prop} (hd : dstOk c.nt ops = true) (hK : ∀ σ a w, K σ → R c σ.τ σ.H σ.sh a w → Q .normal a w) :
    ∀ (fuel : Nat) (listed : Array Bool) (σ : St) (a : Act) (w : World), AnyA P fr ops N K fuel listed σ → R c σ.τ σ.H σ.sh a w → wpAny P .any ops.toArray Q fuel listed a w
  | 0, _, σ, a, w, h, hR => ⟨h.1, hK σ a w h.2 hR⟩
  | fuel + 1, listed, σ, a, w, h, hR => by
    refine ⟨fun h0 => hK σ a w (h.1 h0) hR, fun i hi => ?_⟩
    obtain ⟨σ', ⟨o, b, x, H', sh', ho, hg, hs, rfl⟩, hrest⟩ := h.2 i hi
    obtain ⟨pl, hR⟩ := hR
    have hw := guardA_wanted hR hg
    have hdo : ∀ d, o.dst = some d → d < c.nt := fun d e => by
      have := List.all_eq_true.1 hd o (List.mem_of_getElem? ho)
      rw [e] at this; simpa using this
    have ih := AnyA_sound (Q := Q) hd hK fuel (listed.setIfInBounds i true)
    unfold wpOp
    rw [List.getElem?_toArray, ho]
    simp only
    unfold eff at hs
    cases b with
    | false =>
      rw [if_neg (by rw [hw]; decide)]
      simp only [Bool.false_eq_true, if_false] at hs
      obtain ⟨rfl, rfl, rfl⟩ := hs
      exact ih _ _ _ hrest ⟨pl, hR.put _ hdo (.d _ _ (.val _))⟩
    | true =>
      rw [if_pos hw]
      left
      simp only [if_true] at hs
      split at hs
      · obtain ⟨hq, rfl, rfl⟩ := hs
        exact OpQ_sound hR hq fun v w' h1 h2 => ih _ _ _ hrest ⟨pl, h1.put _ hdo h2⟩
      · obtain ⟨hq, rfl, rfl⟩ := hs
        exact OpD_sound hR hq fun w' pl' h1 => ih _ _ _ hrest ⟨pl', h1.put _ hdo (.d _ _ (.val _))⟩
      · obtain ⟨hq, rfl⟩ := hs
        exact OpM_sound hR hq fun v w' h1 h2 => ih _ _ _ hrest ⟨pl, h1.put _ hdo h2⟩
      · obtain ⟨hn, hsn, _, hq⟩ := hs
        exact OpA_sound hR hn hsn hq fun v w' pl' h1 h2 => ih _ _ _ hrest ⟨pl', h1.put _ hdo h2⟩

/-! ### What an operation hangs on -/
theorem evalA_put {d : Option Tmp} {x : AV} {y : Operand} (h : ∀ t, d = some t → y ≠ .tmp t) : evalA (τ.put d x) y = evalA τ y := by
  cases d with
  | none => rfl
  | some d =>
    cases y with
    | tmp t =>
      have hne : t ≠ d := fun e => h d rfl (e ▸ rfl)
      simp [evalA, Fr.put, hne]
    | _ => rfl
theorem put_comm {x y : Option Tmp} {u v : AV} (h : ∀ d, x = some d → y ≠ some d) : (τ.put x u).put y v = (τ.put y v).put x u := by
  cases x with
  | none => rfl
  | some d =>
    cases y with
    | none => rfl
    | some e =>
      have hne : d ≠ e := fun he => h d rfl (he ▸ rfl)
      funext t
      simp only [Fr.put]
      by_cases h1 : t = e <;> by_cases h2 : t = d <;> simp_all
theorem map_congr' {ρ ρ' : Operand → AV} {l : List Operand} (h : ∀ x ∈ l, ρ x = ρ' x) : l.map ρ = l.map ρ' := List.map_congr_left h
theorem mem_args {callee : Callee} {args : Array Operand} {ts : Array TypeId} {y : Operand} (hy : y ∈ args.toList) : y ∈ (Op.call ⟨callee, args, ts⟩).operands := Array.mem_append.2 (.inr (by simpa using hy))
theorem OpQ_congr {ρ ρ' : Operand → AV} {op : Op} (h : ∀ x ∈ op.operands, ρ x = ρ' x) (M : Nat) (H : AHeap) (x : AV) : OpQ P M H ρ op x = OpQ P M H ρ' op x := by
  cases op with
  | call cl =>
    obtain ⟨callee, args, ts⟩ := cl
    have ha : args.toList.map ρ = args.toList.map ρ' := List.map_congr_left fun y hy => h y (mem_args hy)
    cases callee with
    | value f =>
      have hf : ρ f = ρ' f := h f (by simp [Op.operands, Call.operands])
      simp only [OpQ, ha, hf]
    | builtin b => simp only [OpQ, ha]
    | invoke r m => rfl
  | build t parts =>
    have : (parts.toList.map fun p => (p.1, ρ p.2)) = parts.toList.map fun p => (p.1, ρ' p.2) := List.map_congr_left fun p hp => by rw [h p.2 (by simp only [Op.operands, List.mem_toArray]; exact List.mem_map_of_mem hp)]
    simp only [OpQ, this]
  | makeFunc fn fi ca =>
    have h1 : fi.toList.map ρ = fi.toList.map ρ' := List.map_congr_left fun y hy => h y (by simp [Op.operands] at hy ⊢; exact .inl hy)
    have h2 : ca.toList.map ρ = ca.toList.map ρ' := List.map_congr_left fun y hy => h y (by simp [Op.operands] at hy ⊢; exact .inr hy)
    simp only [OpQ, h1, h2]
  | slice t p lo hi mx =>
    cases mx with
    | some _ => rfl
    | none =>
      have hp : ρ p = ρ' p := h p (by simp [Op.operands])
      have h1 : lo.map ρ = lo.map ρ' := by cases lo with | none => rfl | some y => simp [h y (by simp [Op.operands])]
      have h2 : hi.map ρ = hi.map ρ' := by cases hi with | none => rfl | some y => simp [h y (by simp [Op.operands])]
      simp only [OpQ, hp, h1, h2]
  | pick a b c => simp only [OpQ, h a (by simp [Op.operands]), h b (by simp [Op.operands]), h c (by simp [Op.operands])]
  | binOp op t y z t' => simp only [OpQ, h y (by simp [Op.operands]), h z (by simp [Op.operands])]
  | indexAddr t y z => simp only [OpQ, h y (by simp [Op.operands]), h z (by simp [Op.operands])]
  | index t y z => simp only [OpQ, h y (by simp [Op.operands]), h z (by simp [Op.operands])]
  | move y => simp only [OpQ, h y (by simp [Op.operands])]
  | assign y => simp only [OpQ, h y (by simp [Op.operands])]
  | load t y => simp only [OpQ, h y (by simp [Op.operands])]
  | fieldAddr t y f => simp only [OpQ, h y (by simp [Op.operands])]
  | field t y f => simp only [OpQ, h y (by simp [Op.operands])]
  | unOp o t y => simp only [OpQ, h y (by simp [Op.operands])]
  | convert s t y => simp only [OpQ, h y (by simp [Op.operands])]
  | extract y i => simp only [OpQ, h y (by simp [Op.operands])]
  | lookup t m k ok => simp only [OpQ, h m (by simp [Op.operands]), h k (by simp [Op.operands])]
  | nilCheck y => simp only [OpQ, h y (by simp [Op.operands])]
  | _ => rfl
theorem OpA_congr {ρ ρ' : Operand → AV} {op : Op} (h : ∀ x ∈ op.operands, ρ x = ρ' x) (dr : Bool) (n : Nat) (H : AHeap) (sh : List (Nat × Nat)) (x : AV) (H' : AHeap) (sh' : List (Nat × Nat)) : OpA P dr n ρ op H sh x H' sh' = OpA P dr n ρ' op H sh x H' sh' := by
  cases op with
  | call cl =>
    obtain ⟨callee, args, ts⟩ := cl
    have ha : args.toList.map ρ = args.toList.map ρ' := List.map_congr_left fun y hy => h y (mem_args hy)
    cases callee with
    | value f =>
      have hf : ρ f = ρ' f := h f (by simp [Op.operands, Call.operands])
      simp only [OpA, ha, hf]
    | builtin b =>
      obtain ⟨args⟩ := args
      obtain ⟨ts⟩ := ts
      cases b <;> try rfl
      simp only [OpA]
      split
      · rename_i s y t t'
        rw [h s (by simp [Op.operands, Call.operands]), h y (by simp [Op.operands, Call.operands])]
      · rfl
    | invoke r m => rfl
  | buildSlice t len parts =>
    have : (parts.toList.map fun p => (p.1, ρ p.2)) = parts.toList.map fun p => (p.1, ρ' p.2) := List.map_congr_left fun p hp => by rw [h p.2 (by simp only [Op.operands, List.mem_toArray]; exact List.mem_map_of_mem hp)]
    simp only [OpA, this]
  | makeSlice t l cp => simp only [OpA, h l (by simp [Op.operands]), h cp (by simp [Op.operands])]
  | box t y => simp only [OpA, h y (by simp [Op.operands])]
  | makeMap t hint =>
    simp only [OpA]
    cases hint with
    | none => simp
    | some y => simp [h y (by simp [Op.operands])]
  | _ => rfl
theorem OpD_congr {ρ ρ' : Operand → AV} {op : Op} (h : ∀ x ∈ op.operands, ρ x = ρ' x) (H : AHeap) (sh : List (Nat × Nat)) (N1 : Nat) (H' : AHeap) : OpD P ρ op H sh N1 H' = OpD P ρ' op H sh N1 H' := by
  cases op with
  | store t p y => simp only [OpD, h p (by simp [Op.operands]), h y (by simp [Op.operands])]
  | _ => rfl
theorem OpM_congr {ρ ρ' : Operand → AV} {op : Op} (h : ∀ x ∈ op.operands, ρ x = ρ' x) (H : AHeap) (sh : List (Nat × Nat)) (x : AV) (H' : AHeap) : OpM P ρ op H sh x H' = OpM P ρ' op H sh x H' := by
  cases op with
  | mapUpdate t m k y => simp only [OpM, h m (by simp [Op.operands]), h k (by simp [Op.operands]), h y (by simp [Op.operands])]
  | insert t m k y => simp only [OpM, h m (by simp [Op.operands]), h k (by simp [Op.operands]), h y (by simp [Op.operands])]
  | mapEntry t m k => simp only [OpM, h m (by simp [Op.operands]), h k (by simp [Op.operands])]
  | entryStore t m s y => simp only [OpM, h m (by simp [Op.operands]), h s (by simp [Op.operands]), h y (by simp [Op.operands])]
  | _ => rfl
theorem appOk_congr {ρ ρ' : Operand → AV} {op : Op} (h : ∀ x ∈ op.operands, ρ x = ρ' x) (al : List Nat) : appOk N al ρ op = appOk N al ρ' op := by
  cases op with
  | call cl =>
    obtain ⟨callee, args, ts⟩ := cl
    cases callee with
    | builtin b =>
      cases b <;> try rfl
      simp only [appOk]
      refine propext ⟨fun hh y hy => ?_, fun hh y hy => ?_⟩
      · rw [← h y (mem_args hy)]; exact hh y hy
      · rw [h y (mem_args hy)]; exact hh y hy
    | _ => rfl
  | _ => rfl
theorem looks_mem {o : Oper} {t : Tmp} (h : Operand.tmp t ∈ o.op.operands) : t ∈ o.looksAt ops.toArray :=
  List.mem_append_left _ (List.mem_filterMap.2 ⟨.tmp t, by simpa using h, rfl⟩)
theorem guardA_put {o : Oper} {d : Option Tmp} {x : AV} (h : ∀ t, d = some t → t ∉ o.looksAt ops.toArray) : guardA ops (τ.put d x) o = guardA ops τ o := by
  cases d with
  | none => rfl
  | some d =>
    unfold guardA
    cases hg : o.guard with
    | none => rfl
    | some p =>
      obtain ⟨j, want⟩ := p
      simp only
      cases hj : (ops[j]?).bind (·.dst) with
      | none => rfl
      | some t =>
        have hne : t ≠ d := fun e => h d rfl (by
          unfold Oper.looksAt
          refine List.mem_append_right _ ?_
          rw [hg]
          simp only [List.getElem?_toArray, hj, Option.toList_some, List.mem_singleton]
          exact e.symm)
        simp [Fr.put, hne]
end
end Go.Proofs.Ytfpcailbobjfnaa
