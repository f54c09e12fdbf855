/- Of no program: the abstract machine's run, as equations. -/
import Derived.Test.YtfpcailbobjfnaaA19
set_option linter.unusedVariables false
set_option linter.unusedSimpArgs false
namespace Go.Proofs.Ytfpcailbobjfnaa
open Go Go.RowKit
/-- A frame by its slots. -/
def frL : List (Nat × AV) → Fr
  | [] => fun _ => .any
  | (d, x) :: l => fun t => if t = d then x else frL l t
theorem frL_get (d t : Nat) (x : AV) (l : List (Nat × AV)) : frL ((d, x) :: l) t = if t = d then x else frL l t := rfl
theorem frL_put (d : Nat) (x : AV) (l : List (Nat × AV)) : (frL l).put (some d) x = frL ((d, x) :: l) := rfl
theorem frL_none (x : AV) (τ : Fr) : τ.put none x = τ := rfl
theorem evalA_tmp (τ : Fr) (t : Nat) : evalA τ (.tmp t) = τ t := rfl
theorem evalA_const (τ : Fr) (v : Value) : evalA τ (.const v) = .d (.val v) := rfl
theorem evalA_func (τ : Fr) (f : FuncId) : evalA τ (.func f) = .d (.val (.func (.func f) #[] #[])) := rfl
/-- Fewer slots say less. -/
def Less (τ τ' : Fr) : Prop := ∀ t, τ' t = .any ∨ τ' t = τ t
section
variable {P : Program} {c : Cx} {τ τ' : Fr} {a : Act} {w : World} {H : AHeap} {sh : List (Nat × Nat)} {Q : Exit → Fr → AHeap → Prop}
theorem R.less (h : Less τ τ') (hR : R c τ H sh a w) : R c τ' H sh a w := by
  obtain ⟨pl, h1⟩ := hR
  refine ⟨pl, h1.h, h1.stp, h1.own0, h1.ext, fun t => ?_, h1.size, h1.defs, h1.keep⟩
  rcases h t with h | h
  · rw [h]; exact .any _
  · rw [h]; exact h1.fr t
theorem awp_less {x : Code} (h : Less τ τ') (hx : AWp P c x Q τ' H) : AWp P c x Q τ H := fun a w hR => hx a w (hR.less h)
theorem less_nil (τ : Fr) : Less τ (frL []) := fun _ => .inl rfl
theorem less_cons {d : Nat} {x : AV} {l : List (Nat × AV)} (h : Less τ (frL l)) (hx : τ d = x) : Less τ (frL ((d, x) :: l)) := fun t => by
  rw [frL_get]
  split
  · rename_i e; subst e; exact .inr hx.symm
  · exact h t
/-- Code that goes on behind a region. -/
theorem awp_seq_r {fr : List FuncId} {id : Nat} {l : List Oper} {y : Code} {n : Nat} (hn : c.nt = n) (hd : dstOk n l = true) (h : ∀ K : Fr → AHeap → Prop, (∀ τ H, AWp P c y Q τ H → K τ H) → runT P fr l l τ H K) : AWp P c (.seq (.region id l.toArray false) y) Q τ H :=
  awp_seq (awp_region (fr := fr) (hn ▸ hd) (h _ fun _ _ h => h))
theorem awp_seq_d {fr : List FuncId} {id : Nat} {l : List Oper} {y : Code} {n : Nat} (hn : c.nt = n) (hm : P.follows .mixedOrders = true) (hd : dstOk n l = true) (hB : lexC fr l l.length 0 (Array.replicate l.length false) = true)
    (h : ∀ K : Fr → AHeap → Prop, (∀ τ H, AWp P c y Q τ H → K τ H) → runD P fr l H.length 0 l τ (H ++ List.replicate (l.countP (lays fr)) .free) [] fun τ' H' sh' => K τ' (killAll sh' H')) : AWp P c (.seq (.region id l.toArray true) y) Q τ H :=
  awp_seq (awp_draw fr hm (hn ▸ hd) hB (h _ fun _ _ h => h))
theorem awp_r {fr : List FuncId} {id : Nat} {l : List Oper} {n : Nat} (hn : c.nt = n) (hd : dstOk n l = true) (h : ∀ K : Fr → AHeap → Prop, (∀ τ H, Q .normal τ H → K τ H) → runT P fr l l τ H K) : AWp P c (.region id l.toArray false) Q τ H :=
  awp_region (fr := fr) (hn ▸ hd) (h _ fun _ _ h => h)
theorem awp_d {fr : List FuncId} {id : Nat} {l : List Oper} {n : Nat} (hn : c.nt = n) (hm : P.follows .mixedOrders = true) (hd : dstOk n l = true) (hB : lexC fr l l.length 0 (Array.replicate l.length false) = true)
    (h : ∀ K : Fr → AHeap → Prop, (∀ τ H, Q .normal τ H → K τ H) → runD P fr l H.length 0 l τ (H ++ List.replicate (l.countP (lays fr)) .free) [] fun τ' H' sh' => K τ' (killAll sh' H')) : AWp P c (.region id l.toArray true) Q τ H :=
  awp_draw fr hm (hn ▸ hd) hB (h _ fun _ _ h => h)
theorem awp_seq_k {x y : Code} (h : ∀ K : Fr → AHeap → Prop, (∀ τ H, AWp P c y Q τ H → K τ H) → AWp P c x (thenA K Q) τ H) : AWp P c (.seq x y) Q τ H := awp_seq (h _ fun _ _ h => h)
end
section
variable {P : Program} {fr : List FuncId} {ops l : List Oper} {τ : Fr} {H : AHeap} {sh : List (Nat × Nat)} {N i : Nat} {d : Option Tmp} {op : Op} {ty : TypeId} {pos : String} {af : Array Edge}
theorem runT_nil {K : Fr → AHeap → Prop} : runT P fr ops [] τ H K = K τ H := rfl
theorem runD_nil {K : Fr → AHeap → List (Nat × Nat) → Prop} : runD P fr ops N i [] τ H sh K = K τ H sh := rfl
theorem runT_q {K : Fr → AHeap → Prop} (hk : kOf fr op = 0) (hi : isCallV op = false := by rfl) : runT P fr ops (⟨d, op, ty, pos, af, none⟩ :: l) τ H K = ∃ x, OpQ P H.length H (evalA τ) op x ∧ runT P fr ops l (τ.put d x) H K := by
  have := fun K => InlK_not (P := P) (op := op) (τ := τ) (H := H) (K := K) hi
  simp [runT, guardA, coreT, hk, this]
theorem runT_call {K : Fr → AHeap → Prop} {f : Operand} {args : Array Operand} {ts : Array TypeId} (hk : kOf fr (.call ⟨.value f, args, ts⟩) = 0) : runT P fr ops (⟨d, .call ⟨.value f, args, ts⟩, ty, pos, af, none⟩ :: l) τ H K =
    ((∃ x, CallQ P H.length H (evalA τ f) (args.toList.map (evalA τ)) x ∧ runT P fr ops l (τ.put d x) H K) ∨ ∃ n fi ca, calleeOf (evalA τ f) = some (n, fi, ca) ∧ (IcK P n (fi ++ args.toList.map (evalA τ) ++ ca) H (fun x H' => runT P fr ops l (τ.put d x) H' K) ∨ ∃ ds Q, AV.toD.toDs (fi ++ args.toList.map (evalA τ) ++ ca) = some ds ∧ RCalls P n ds Q ∧ ∀ x, Q x → runT P fr ops l (τ.put d x) H K)) := by
  simp [runT, guardA, coreT, hk, OpQ, InlK]
theorem runT_d {K : Fr → AHeap → Prop} (hk : kOf fr op = 2) : runT P fr ops (⟨d, op, ty, pos, af, none⟩ :: l) τ H K = ∃ H', OpD P (evalA τ) op H [] 0 H' ∧ runT P fr ops l (τ.put d (.d (.val undef))) H' K := by
  simp [runT, guardA, coreT, hk]
theorem runT_1 {K : Fr → AHeap → Prop} (hk : kOf fr op = 1) : runT P fr ops (⟨d, op, ty, pos, af, none⟩ :: l) τ H K = ∃ x H', OpA P false H.length (evalA τ) op (H ++ [.free]) [] x H' [] ∧ runT P fr ops l (τ.put d x) H' K := by
  simp [runT, guardA, coreT, hk]
theorem runT_3 {K : Fr → AHeap → Prop} (hk : kOf fr op = 3) : runT P fr ops (⟨d, op, ty, pos, af, none⟩ :: l) τ H K = ∃ x H', OpA P false H.length (evalA τ) op (H ++ [.free]) [] x H' [] ∧ runT P fr ops l (τ.put d x) H' K := by
  simp [runT, guardA, coreT, hk]
theorem runT_g {K : Fr → AHeap → Prop} {j : Nat} {want : Bool} : runT P fr ops (⟨d, op, ty, pos, af, some (j, want)⟩ :: l) τ H K =
    ∃ b, guardA ops τ ⟨d, op, ty, pos, af, some (j, want)⟩ = some b ∧ (b = true → runT P fr ops (⟨d, op, ty, pos, af, none⟩ :: l) τ H K) ∧ (b = false → runT P fr ops l (τ.put d (.d (.val undef))) H K) := by
  simp [runT, guardA, coreT]
theorem runD_q {K : Fr → AHeap → List (Nat × Nat) → Prop} (hk : kOf fr op = 0) : runD P fr ops N i (⟨d, op, ty, pos, af, none⟩ :: l) τ H sh K = ∃ x, OpQ P N H (evalA τ) op x ∧ runD P fr ops N (i + 1) l (τ.put d x) H sh K := by
  refine propext ⟨fun ⟨b, hb, h1, _⟩ => ?_, fun ⟨x, h1, h2⟩ => ⟨true, rfl, fun _ => ⟨x, H, sh, by simp only [eff, if_true, hk]; exact ⟨h1, trivial, trivial⟩, h2⟩, fun h => by cases h⟩⟩
  simp only [guardA, Option.some.injEq] at hb
  obtain ⟨x, H', sh', he, hr⟩ := h1 hb.symm
  simp only [eff, if_true, hk] at he
  obtain ⟨hq, rfl, rfl⟩ := he
  exact ⟨x, hq, hr⟩
theorem runD_d {K : Fr → AHeap → List (Nat × Nat) → Prop} (hk : kOf fr op = 2) : runD P fr ops N i (⟨d, op, ty, pos, af, none⟩ :: l) τ H sh K = ∃ H', OpD P (evalA τ) op H sh (if freshSt ops ⟨d, op, ty, pos, af, none⟩ then N else 0) H' ∧ runD P fr ops N (i + 1) l (τ.put d (.d (.val undef))) H' sh K := by
  refine propext ⟨fun ⟨b, hb, h1, _⟩ => ?_, fun ⟨H', h1, h2⟩ => ⟨true, rfl, fun _ => ⟨_, H', sh, by simp only [eff, if_true, hk]; exact ⟨h1, trivial, trivial⟩, h2⟩, fun h => by cases h⟩⟩
  simp only [guardA, Option.some.injEq] at hb
  obtain ⟨x, H', sh', he, hr⟩ := h1 hb.symm
  simp only [eff, if_true, hk] at he
  obtain ⟨hq, rfl, rfl⟩ := he
  exact ⟨H', hq, hr⟩
theorem runD_1 {K : Fr → AHeap → List (Nat × Nat) → Prop} (hk : kOf fr op = 1) : runD P fr ops N i (⟨d, op, ty, pos, af, none⟩ :: l) τ H sh K = ∃ x H' sh', (H[N + rkOf fr ops i]? = some .free ∧ (∀ p ∈ sh, p.1 ≠ N + rkOf fr ops i ∧ p.2 ≠ N + rkOf fr ops i) ∧ appOk N (alOf fr ops ⟨d, op, ty, pos, af, none⟩) (evalA τ) op ∧ OpA P true (N + rkOf fr ops i) (evalA τ) op H sh x H' sh') ∧ runD P fr ops N (i + 1) l (τ.put d x) H' sh' K := by
  refine propext ⟨fun ⟨b, hb, h1, _⟩ => ?_, fun ⟨x, H', sh', h1, h2⟩ => ⟨true, rfl, fun _ => ⟨x, H', sh', by simp only [eff, if_true, hk]; exact h1, h2⟩, fun h => by cases h⟩⟩
  simp only [guardA, Option.some.injEq] at hb
  obtain ⟨x, H', sh', he, hr⟩ := h1 hb.symm
  simp only [eff, if_true, hk] at he
  exact ⟨x, H', sh', he, hr⟩
theorem runD_3 {K : Fr → AHeap → List (Nat × Nat) → Prop} (hk : kOf fr op = 3) : runD P fr ops N i (⟨d, op, ty, pos, af, none⟩ :: l) τ H sh K = ∃ x H' sh', (H[N + rkOf fr ops i]? = some .free ∧ (∀ p ∈ sh, p.1 ≠ N + rkOf fr ops i ∧ p.2 ≠ N + rkOf fr ops i) ∧ appOk N (alOf fr ops ⟨d, op, ty, pos, af, none⟩) (evalA τ) op ∧ OpA P true (N + rkOf fr ops i) (evalA τ) op H sh x H' sh') ∧ runD P fr ops N (i + 1) l (τ.put d x) H' sh' K := by
  refine propext ⟨fun ⟨b, hb, h1, _⟩ => ?_, fun ⟨x, H', sh', h1, h2⟩ => ⟨true, rfl, fun _ => ⟨x, H', sh', by simp only [eff, if_true, hk]; exact h1, h2⟩, fun h => by cases h⟩⟩
  simp only [guardA, Option.some.injEq] at hb
  obtain ⟨x, H', sh', he, hr⟩ := h1 hb.symm
  simp only [eff, if_true, hk] at he
  exact ⟨x, H', sh', he, hr⟩
end
/-! ### Kinds -/
theorem k_move (fr : List FuncId) (y : Operand) : kOf fr (.move y) = 0 := rfl
theorem k_assign (fr : List FuncId) (y : Operand) : kOf fr (.assign y) = 0 := rfl
theorem k_pick (fr : List FuncId) (x y z : Operand) : kOf fr (.pick x y z) = 0 := rfl
theorem k_load (fr : List FuncId) (t : TypeId) (y : Operand) : kOf fr (.load t y) = 0 := rfl
theorem k_fa (fr : List FuncId) (t : TypeId) (y : Operand) (f : Nat) : kOf fr (.fieldAddr t y f) = 0 := rfl
theorem k_field (fr : List FuncId) (t : TypeId) (y : Operand) (f : Nat) : kOf fr (.field t y f) = 0 := rfl
theorem k_ia (fr : List FuncId) (t : TypeId) (y z : Operand) : kOf fr (.indexAddr t y z) = 0 := rfl
theorem k_index (fr : List FuncId) (t : TypeId) (y z : Operand) : kOf fr (.index t y z) = 0 := rfl
theorem k_slice (fr : List FuncId) (t : TypeId) (y : Operand) (l h m : Option Operand) : kOf fr (.slice t y l h m) = 0 := rfl
theorem k_bin (fr : List FuncId) (op : BinOp) (t t' : TypeId) (y z : Operand) : kOf fr (.binOp op t y z t') = 0 := rfl
theorem k_un (fr : List FuncId) (op : UnOp) (t : TypeId) (y : Operand) : kOf fr (.unOp op t y) = 0 := rfl
theorem k_conv (fr : List FuncId) (s t : TypeId) (y : Operand) : kOf fr (.convert s t y) = 0 := rfl
theorem k_build (fr : List FuncId) (t : TypeId) (ps : Array (Nat × Operand)) : kOf fr (.build t ps) = 0 := rfl
theorem k_extract (fr : List FuncId) (y : Operand) (i : Nat) : kOf fr (.extract y i) = 0 := rfl
theorem k_nil (fr : List FuncId) (y : Operand) : kOf fr (.nilCheck y) = 0 := rfl
theorem k_mf (fr : List FuncId) (fn : Fn) (x y : Array Operand) : kOf fr (.makeFunc fn x y) = 0 := rfl
theorem k_len (fr : List FuncId) (x : Array Operand) (y : Array TypeId) : kOf fr (.call ⟨.builtin .len, x, y⟩) = 0 := rfl
theorem k_max (fr : List FuncId) (x : Array Operand) (y : Array TypeId) : kOf fr (.call ⟨.builtin .max, x, y⟩) = 0 := rfl
theorem k_min (fr : List FuncId) (x : Array Operand) (y : Array TypeId) : kOf fr (.call ⟨.builtin .min, x, y⟩) = 0 := rfl
theorem k_append (fr : List FuncId) (x : Array Operand) (y : Array TypeId) : kOf fr (.call ⟨.builtin .append, x, y⟩) = 3 := rfl
theorem k_call0 (f : FuncId) (x : Array Operand) (y : Array TypeId) : kOf [] (.call ⟨.value (.func f), x, y⟩) = 0 := rfl
theorem k_call (fr : List FuncId) (f : FuncId) (x : Array Operand) (y : Array TypeId) : kOf fr (.call ⟨.value (.func f), x, y⟩) = if fr.contains f then 1 else 0 := rfl
theorem k_callt (fr : List FuncId) (f : Nat) (x : Array Operand) (y : Array TypeId) : kOf fr (.call ⟨.value (.tmp f), x, y⟩) = 0 := rfl
theorem k_box (fr : List FuncId) (t : TypeId) (y : Operand) : kOf fr (.box t y) = 1 := rfl
theorem k_alloc (fr : List FuncId) (t : TypeId) : kOf fr (.alloc t) = 1 := rfl
theorem k_make (fr : List FuncId) (t : TypeId) (x y : Operand) : kOf fr (.makeSlice t x y) = 1 := rfl
theorem k_bs (fr : List FuncId) (t : TypeId) (n : Nat) (ps : Array (Nat × Operand)) : kOf fr (.buildSlice t n ps) = 1 := rfl
theorem k_store (fr : List FuncId) (t : TypeId) (x y : Operand) : kOf fr (.store t x y) = 2 := rfl
end Go.Proofs.Ytfpcailbobjfnaa
