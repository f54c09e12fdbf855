/- Of no program: the run of a region that draws, operation by operation; the laying operations. -/
import Derived.Test.YtinefghmmbggeaaA22
set_option linter.unusedVariables false
set_option linter.unusedSimpArgs false
namespace Go.Proofs.Ytinefghmmbggeaa
open Go Go.RowKit
section
variable {P : Program} {fr : List FuncId} {ops l : List Oper} {τ : Fr} {H : AHeap} {sh : List (Nat × Nat)} {N i r : Nat} {m : List (Nat × Nat)} {d : Option Tmp} {op : Op} {ty : TypeId} {pos : String} {af : Array Edge} {KD : Fr → AHeap → List (Nat × Nat) → Prop} {K : Fr → AHeap → Prop}
theorem runE_nil : runE P fr ops N i r m [] τ H sh KD = KD τ H sh := rfl
theorem runE_g {j : Nat} {want : Bool} : runE P fr ops N i r m (⟨d, op, ty, pos, af, some (j, want)⟩ :: l) τ H sh KD =
    ∃ b, guardA ops τ ⟨d, op, ty, pos, af, some (j, want)⟩ = some b ∧ (b = true → coreE P fr N r (freshSt ops ⟨d, op, ty, pos, af, none⟩) m ⟨d, op, ty, pos, af, none⟩ τ H sh fun x H' sh' => runE P fr ops N (i + 1) (if lays fr ⟨d, op, ty, pos, af, none⟩ then r + 1 else r) (if lays fr ⟨d, op, ty, pos, af, none⟩ then (i, r) :: m else m) l (τ.put d x) H' sh' KD) ∧
      (b = false → runE P fr ops N (i + 1) (if lays fr ⟨d, op, ty, pos, af, none⟩ then r + 1 else r) (if lays fr ⟨d, op, ty, pos, af, none⟩ then (i, r) :: m else m) l (τ.put d (.d (.val undef))) H sh KD) := rfl
theorem runE_n : runE P fr ops N i r m (⟨d, op, ty, pos, af, none⟩ :: l) τ H sh KD =
    coreE P fr N r (freshSt ops ⟨d, op, ty, pos, af, none⟩) m ⟨d, op, ty, pos, af, none⟩ τ H sh fun x H' sh' => runE P fr ops N (i + 1) (if lays fr ⟨d, op, ty, pos, af, none⟩ then r + 1 else r) (if lays fr ⟨d, op, ty, pos, af, none⟩ then (i, r) :: m else m) l (τ.put d x) H' sh' KD := by
  simp [runE, guardA]
theorem guardA_some {j : Nat} {want : Bool} {τ : Fr} : guardA ops τ ⟨d, op, ty, pos, af, some (j, want)⟩ = match (ops[j]?).bind (·.dst) with | none => some false | some d => guardV want (τ d) := rfl
theorem guardV_t {b : Bool} : guardV true (.d (.val (.bool b))) = some b := by cases b <;> rfl
theorem guardV_f {b : Bool} : guardV false (.d (.val (.bool b))) = some (!b) := by cases b <;> rfl
theorem guardV_u {want : Bool} : guardV want (.d (.val undef)) = some false := rfl
theorem coreE_q {KX : AV → AHeap → List (Nat × Nat) → Prop} {fresh : Bool} (hk : kOf fr op = 0) : coreE P fr N r fresh m ⟨d, op, ty, pos, af, none⟩ τ H sh KX = ∃ x, OpQ P N H (evalA τ) op x ∧ KX x H sh := by
  simp only [coreE, hk]
theorem lays_q (hk : kOf fr op = 0) : lays fr ⟨d, op, ty, pos, af, none⟩ = false := by simp [lays, hk]
def shOk (n : Nat) : List (Nat × Nat) → Prop
  | [] => True
  | p :: l => p.1 ≠ n ∧ p.2 ≠ n ∧ shOk n l
theorem shOk_iff (n : Nat) : ∀ sh : List (Nat × Nat), shOk n sh ↔ ∀ p ∈ sh, p.1 ≠ n ∧ p.2 ≠ n
  | [] => by simp [shOk]
  | p :: l => by simp [shOk, shOk_iff n l, and_assoc]
/-- What an operation that lays asks, and leaves. -/
def LayK (P : Program) (N r : Nat) (al : List Nat) (ρ : Operand → AV) (op : Op) (H : AHeap) (sh : List (Nat × Nat)) (KX : AV → AHeap → List (Nat × Nat) → Prop) : Prop :=
  H[N + r]? = some .free ∧ (∀ p ∈ sh, p.1 ≠ N + r ∧ p.2 ≠ N + r) ∧ appOk N al ρ op ∧ ∃ x H' sh', OpA P true (N + r) ρ op H sh x H' sh' ∧ KX x H' sh'
theorem cE_move {y : Operand} {fresh : Bool} {KX : AV → AHeap → List (Nat × Nat) → Prop} : coreE P fr N r fresh m ⟨d, .move y, ty, pos, af, none⟩ τ H sh KX = (KX (evalA τ y) H sh) := (coreE_q rfl).trans q_move
theorem ly_move {y : Operand} : lays fr ⟨d, .move y, ty, pos, af, none⟩ = false := lays_q rfl
theorem rE_move {y : Operand} : runE P fr ops N i r m (⟨d, .move y, ty, pos, af, none⟩ :: l) τ H sh KD = (runE P fr ops N (i + 1) r m l (τ.put d (evalA τ y)) H sh KD) := by rw [runE_n, ly_move]; exact cE_move
theorem cE_assign {y : Operand} {fresh : Bool} {KX : AV → AHeap → List (Nat × Nat) → Prop} : coreE P fr N r fresh m ⟨d, .assign y, ty, pos, af, none⟩ τ H sh KX = (KX (evalA τ y) H sh) := (coreE_q rfl).trans q_assign
theorem ly_assign {y : Operand} : lays fr ⟨d, .assign y, ty, pos, af, none⟩ = false := lays_q rfl
theorem rE_assign {y : Operand} : runE P fr ops N i r m (⟨d, .assign y, ty, pos, af, none⟩ :: l) τ H sh KD = (runE P fr ops N (i + 1) r m l (τ.put d (evalA τ y)) H sh KD) := by rw [runE_n, ly_assign]; exact cE_assign
theorem cE_pick {c a b : Operand} {fresh : Bool} {KX : AV → AHeap → List (Nat × Nat) → Prop} : coreE P fr N r fresh m ⟨d, .pick c a b, ty, pos, af, none⟩ τ H sh KX = (∃ t, evalA τ c = .d (.val (.bool t)) ∧ KX (if t then evalA τ a else evalA τ b) H sh) := (coreE_q rfl).trans q_pick
theorem ly_pick {c a b : Operand} : lays fr ⟨d, .pick c a b, ty, pos, af, none⟩ = false := lays_q rfl
theorem rE_pick {c a b : Operand} : runE P fr ops N i r m (⟨d, .pick c a b, ty, pos, af, none⟩ :: l) τ H sh KD = (∃ t, evalA τ c = .d (.val (.bool t)) ∧ runE P fr ops N (i + 1) r m l (τ.put d (if t then evalA τ a else evalA τ b)) H sh KD) := by rw [runE_n, ly_pick]; exact cE_pick
theorem cE_load {t : TypeId} {y : Operand} {fresh : Bool} {KX : AV → AHeap → List (Nat × Nat) → Prop} : coreE P fr N r fresh m ⟨d, .load t y, ty, pos, af, none⟩ τ H sh KX = (∃ x, LoadQ P H N t (evalA τ y) x ∧ KX x H sh) := (coreE_q rfl).trans q_load
theorem ly_load {t : TypeId} {y : Operand} : lays fr ⟨d, .load t y, ty, pos, af, none⟩ = false := lays_q rfl
theorem rE_load {t : TypeId} {y : Operand} : runE P fr ops N i r m (⟨d, .load t y, ty, pos, af, none⟩ :: l) τ H sh KD = (∃ x, LoadQ P H N t (evalA τ y) x ∧ runE P fr ops N (i + 1) r m l (τ.put d x) H sh KD) := by rw [runE_n, ly_load]; exact cE_load
theorem cE_fa {t : TypeId} {y : Operand} {f : Nat} {fresh : Bool} {KX : AV → AHeap → List (Nat × Nat) → Prop} : coreE P fr N r fresh m ⟨d, .fieldAddr t y f, ty, pos, af, none⟩ τ H sh KX = (∃ x, FieldAddrQ P t f (evalA τ y) x ∧ KX x H sh) := (coreE_q rfl).trans q_fieldAddr
theorem ly_fa {t : TypeId} {y : Operand} {f : Nat} : lays fr ⟨d, .fieldAddr t y f, ty, pos, af, none⟩ = false := lays_q rfl
theorem rE_fa {t : TypeId} {y : Operand} {f : Nat} : runE P fr ops N i r m (⟨d, .fieldAddr t y f, ty, pos, af, none⟩ :: l) τ H sh KD = (∃ x, FieldAddrQ P t f (evalA τ y) x ∧ runE P fr ops N (i + 1) r m l (τ.put d x) H sh KD) := by rw [runE_n, ly_fa]; exact cE_fa
theorem cE_field {t : TypeId} {y : Operand} {f : Nat} {fresh : Bool} {KX : AV → AHeap → List (Nat × Nat) → Prop} : coreE P fr N r fresh m ⟨d, .field t y f, ty, pos, af, none⟩ τ H sh KX = (∃ x, FieldQ P t f (evalA τ y) x ∧ KX x H sh) := (coreE_q rfl).trans q_field
theorem ly_field {t : TypeId} {y : Operand} {f : Nat} : lays fr ⟨d, .field t y f, ty, pos, af, none⟩ = false := lays_q rfl
theorem rE_field {t : TypeId} {y : Operand} {f : Nat} : runE P fr ops N i r m (⟨d, .field t y f, ty, pos, af, none⟩ :: l) τ H sh KD = (∃ x, FieldQ P t f (evalA τ y) x ∧ runE P fr ops N (i + 1) r m l (τ.put d x) H sh KD) := by rw [runE_n, ly_field]; exact cE_field
theorem cE_ia {t : TypeId} {y z : Operand} {fresh : Bool} {KX : AV → AHeap → List (Nat × Nat) → Prop} : coreE P fr N r fresh m ⟨d, .indexAddr t y z, ty, pos, af, none⟩ τ H sh KX = (∃ x, IndexAddrQ P t (evalA τ y) (evalA τ z) x ∧ KX x H sh) := (coreE_q rfl).trans q_indexAddr
theorem ly_ia {t : TypeId} {y z : Operand} : lays fr ⟨d, .indexAddr t y z, ty, pos, af, none⟩ = false := lays_q rfl
theorem rE_ia {t : TypeId} {y z : Operand} : runE P fr ops N i r m (⟨d, .indexAddr t y z, ty, pos, af, none⟩ :: l) τ H sh KD = (∃ x, IndexAddrQ P t (evalA τ y) (evalA τ z) x ∧ runE P fr ops N (i + 1) r m l (τ.put d x) H sh KD) := by rw [runE_n, ly_ia]; exact cE_ia
theorem cE_index {t : TypeId} {y z : Operand} {fresh : Bool} {KX : AV → AHeap → List (Nat × Nat) → Prop} : coreE P fr N r fresh m ⟨d, .index t y z, ty, pos, af, none⟩ τ H sh KX = (∃ x, IndexQ P t (evalA τ y) (evalA τ z) x ∧ KX x H sh) := (coreE_q rfl).trans q_index
theorem ly_index {t : TypeId} {y z : Operand} : lays fr ⟨d, .index t y z, ty, pos, af, none⟩ = false := lays_q rfl
theorem rE_index {t : TypeId} {y z : Operand} : runE P fr ops N i r m (⟨d, .index t y z, ty, pos, af, none⟩ :: l) τ H sh KD = (∃ x, IndexQ P t (evalA τ y) (evalA τ z) x ∧ runE P fr ops N (i + 1) r m l (τ.put d x) H sh KD) := by rw [runE_n, ly_index]; exact cE_index
theorem cE_slice {t : TypeId} {y : Operand} {lo hi : Option Operand} {fresh : Bool} {KX : AV → AHeap → List (Nat × Nat) → Prop} : coreE P fr N r fresh m ⟨d, .slice t y lo hi none, ty, pos, af, none⟩ τ H sh KX = (∃ x, SliceQ P H N t (evalA τ y) (lo.map (evalA τ)) (hi.map (evalA τ)) x ∧ KX x H sh) := (coreE_q rfl).trans q_slice
theorem ly_slice {t : TypeId} {y : Operand} {lo hi : Option Operand} : lays fr ⟨d, .slice t y lo hi none, ty, pos, af, none⟩ = false := lays_q rfl
theorem rE_slice {t : TypeId} {y : Operand} {lo hi : Option Operand} : runE P fr ops N i r m (⟨d, .slice t y lo hi none, ty, pos, af, none⟩ :: l) τ H sh KD = (∃ x, SliceQ P H N t (evalA τ y) (lo.map (evalA τ)) (hi.map (evalA τ)) x ∧ runE P fr ops N (i + 1) r m l (τ.put d x) H sh KD) := by rw [runE_n, ly_slice]; exact cE_slice
theorem cE_bin {op : BinOp} {t t' : TypeId} {y z : Operand} {fresh : Bool} {KX : AV → AHeap → List (Nat × Nat) → Prop} : coreE P fr N r fresh m ⟨d, .binOp op t y z t', ty, pos, af, none⟩ τ H sh KX = (BinK P op t (evalA τ y) (evalA τ z) fun x => KX x H sh) := (coreE_q rfl).trans q_binOp
theorem ly_bin {op : BinOp} {t t' : TypeId} {y z : Operand} : lays fr ⟨d, .binOp op t y z t', ty, pos, af, none⟩ = false := lays_q rfl
theorem rE_bin {op : BinOp} {t t' : TypeId} {y z : Operand} : runE P fr ops N i r m (⟨d, .binOp op t y z t', ty, pos, af, none⟩ :: l) τ H sh KD = (BinK P op t (evalA τ y) (evalA τ z) fun x => runE P fr ops N (i + 1) r m l (τ.put d x) H sh KD) := by rw [runE_n, ly_bin]; exact cE_bin
theorem cE_un {op : UnOp} {t : TypeId} {y : Operand} {fresh : Bool} {KX : AV → AHeap → List (Nat × Nat) → Prop} : coreE P fr N r fresh m ⟨d, .unOp op t y, ty, pos, af, none⟩ τ H sh KX = (UnK op (evalA τ y) fun x => KX x H sh) := (coreE_q rfl).trans q_unOp
theorem ly_un {op : UnOp} {t : TypeId} {y : Operand} : lays fr ⟨d, .unOp op t y, ty, pos, af, none⟩ = false := lays_q rfl
theorem rE_un {op : UnOp} {t : TypeId} {y : Operand} : runE P fr ops N i r m (⟨d, .unOp op t y, ty, pos, af, none⟩ :: l) τ H sh KD = (UnK op (evalA τ y) fun x => runE P fr ops N (i + 1) r m l (τ.put d x) H sh KD) := by rw [runE_n, ly_un]; exact cE_un
theorem cE_conv {s t : TypeId} {y : Operand} {fresh : Bool} {KX : AV → AHeap → List (Nat × Nat) → Prop} : coreE P fr N r fresh m ⟨d, .convert s t y, ty, pos, af, none⟩ τ H sh KX = (ConvK P s t (evalA τ y) fun x => KX x H sh) := (coreE_q rfl).trans q_convert
theorem ly_conv {s t : TypeId} {y : Operand} : lays fr ⟨d, .convert s t y, ty, pos, af, none⟩ = false := lays_q rfl
theorem rE_conv {s t : TypeId} {y : Operand} : runE P fr ops N i r m (⟨d, .convert s t y, ty, pos, af, none⟩ :: l) τ H sh KD = (ConvK P s t (evalA τ y) fun x => runE P fr ops N (i + 1) r m l (τ.put d x) H sh KD) := by rw [runE_n, ly_conv]; exact cE_conv
theorem cE_build {t : TypeId} {ps : Array (Nat × Operand)} {fresh : Bool} {KX : AV → AHeap → List (Nat × Nat) → Prop} : coreE P fr N r fresh m ⟨d, .build t ps, ty, pos, af, none⟩ τ H sh KX = (∃ x, BuildQ P t (ps.toList.map fun p => (p.1, evalA τ p.2)) x ∧ KX x H sh) := (coreE_q rfl).trans q_build
theorem ly_build {t : TypeId} {ps : Array (Nat × Operand)} : lays fr ⟨d, .build t ps, ty, pos, af, none⟩ = false := lays_q rfl
theorem rE_build {t : TypeId} {ps : Array (Nat × Operand)} : runE P fr ops N i r m (⟨d, .build t ps, ty, pos, af, none⟩ :: l) τ H sh KD = (∃ x, BuildQ P t (ps.toList.map fun p => (p.1, evalA τ p.2)) x ∧ runE P fr ops N (i + 1) r m l (τ.put d x) H sh KD) := by rw [runE_n, ly_build]; exact cE_build
theorem cE_extract {y : Operand} {ix : Nat} {fresh : Bool} {KX : AV → AHeap → List (Nat × Nat) → Prop} : coreE P fr N r fresh m ⟨d, .extract y ix, ty, pos, af, none⟩ τ H sh KX = (∃ x, (∃ vs, evalA τ y = .tup vs ∧ vs[ix]? = some x) ∧ KX x H sh) := (coreE_q rfl).trans q_extract
theorem ly_extract {y : Operand} {ix : Nat} : lays fr ⟨d, .extract y ix, ty, pos, af, none⟩ = false := lays_q rfl
theorem rE_extract {y : Operand} {ix : Nat} : runE P fr ops N i r m (⟨d, .extract y ix, ty, pos, af, none⟩ :: l) τ H sh KD = (∃ x, (∃ vs, evalA τ y = .tup vs ∧ vs[ix]? = some x) ∧ runE P fr ops N (i + 1) r m l (τ.put d x) H sh KD) := by rw [runE_n, ly_extract]; exact cE_extract
theorem cE_mf {fn : Fn} {fi ca : Array Operand} {fresh : Bool} {KX : AV → AHeap → List (Nat × Nat) → Prop} : coreE P fr N r fresh m ⟨d, .makeFunc fn fi ca, ty, pos, af, none⟩ τ H sh KX = (KX (.clo fn (fi.toList.map (evalA τ)) (ca.toList.map (evalA τ))) H sh) := (coreE_q rfl).trans q_makeFunc
theorem ly_mf {fn : Fn} {fi ca : Array Operand} : lays fr ⟨d, .makeFunc fn fi ca, ty, pos, af, none⟩ = false := lays_q rfl
theorem rE_mf {fn : Fn} {fi ca : Array Operand} : runE P fr ops N i r m (⟨d, .makeFunc fn fi ca, ty, pos, af, none⟩ :: l) τ H sh KD = (runE P fr ops N (i + 1) r m l (τ.put d (.clo fn (fi.toList.map (evalA τ)) (ca.toList.map (evalA τ)))) H sh KD) := by rw [runE_n, ly_mf]; exact cE_mf
theorem cE_len {args : Array Operand} {ts : Array TypeId} {fresh : Bool} {KX : AV → AHeap → List (Nat × Nat) → Prop} : coreE P fr N r fresh m ⟨d, .call ⟨.builtin .len, args, ts⟩, ty, pos, af, none⟩ τ H sh KX = (∃ x, BuiltinQ P .len ts.toList (args.toList.map (evalA τ)) x ∧ KX x H sh) := (coreE_q rfl).trans q_builtin
theorem ly_len {args : Array Operand} {ts : Array TypeId} : lays fr ⟨d, .call ⟨.builtin .len, args, ts⟩, ty, pos, af, none⟩ = false := lays_q rfl
theorem rE_len {args : Array Operand} {ts : Array TypeId} : runE P fr ops N i r m (⟨d, .call ⟨.builtin .len, args, ts⟩, ty, pos, af, none⟩ :: l) τ H sh KD = (∃ x, BuiltinQ P .len ts.toList (args.toList.map (evalA τ)) x ∧ runE P fr ops N (i + 1) r m l (τ.put d x) H sh KD) := by rw [runE_n, ly_len]; exact cE_len
theorem cE_max {args : Array Operand} {ts : Array TypeId} {fresh : Bool} {KX : AV → AHeap → List (Nat × Nat) → Prop} : coreE P fr N r fresh m ⟨d, .call ⟨.builtin .max, args, ts⟩, ty, pos, af, none⟩ τ H sh KX = (∃ x, BuiltinQ P .max ts.toList (args.toList.map (evalA τ)) x ∧ KX x H sh) := (coreE_q rfl).trans q_builtin
theorem ly_max {args : Array Operand} {ts : Array TypeId} : lays fr ⟨d, .call ⟨.builtin .max, args, ts⟩, ty, pos, af, none⟩ = false := lays_q rfl
theorem rE_max {args : Array Operand} {ts : Array TypeId} : runE P fr ops N i r m (⟨d, .call ⟨.builtin .max, args, ts⟩, ty, pos, af, none⟩ :: l) τ H sh KD = (∃ x, BuiltinQ P .max ts.toList (args.toList.map (evalA τ)) x ∧ runE P fr ops N (i + 1) r m l (τ.put d x) H sh KD) := by rw [runE_n, ly_max]; exact cE_max
theorem cE_min {args : Array Operand} {ts : Array TypeId} {fresh : Bool} {KX : AV → AHeap → List (Nat × Nat) → Prop} : coreE P fr N r fresh m ⟨d, .call ⟨.builtin .min, args, ts⟩, ty, pos, af, none⟩ τ H sh KX = (∃ x, BuiltinQ P .min ts.toList (args.toList.map (evalA τ)) x ∧ KX x H sh) := (coreE_q rfl).trans q_builtin
theorem ly_min {args : Array Operand} {ts : Array TypeId} : lays fr ⟨d, .call ⟨.builtin .min, args, ts⟩, ty, pos, af, none⟩ = false := lays_q rfl
theorem rE_min {args : Array Operand} {ts : Array TypeId} : runE P fr ops N i r m (⟨d, .call ⟨.builtin .min, args, ts⟩, ty, pos, af, none⟩ :: l) τ H sh KD = (∃ x, BuiltinQ P .min ts.toList (args.toList.map (evalA τ)) x ∧ runE P fr ops N (i + 1) r m l (τ.put d x) H sh KD) := by rw [runE_n, ly_min]; exact cE_min
theorem cE_call0 {f : FuncId} {args : Array Operand} {ts : Array TypeId} {fresh : Bool} {KX : AV → AHeap → List (Nat × Nat) → Prop} : coreE P [] N r fresh m ⟨d, .call ⟨.value (.func f), args, ts⟩, ty, pos, af, none⟩ τ H sh KX = (∃ x, CallQ P N H (evalA τ (.func f)) (args.toList.map (evalA τ)) x ∧ KX x H sh) := (coreE_q rfl).trans q_call
theorem ly_call0 {f : FuncId} {args : Array Operand} {ts : Array TypeId} : lays [] ⟨d, .call ⟨.value (.func f), args, ts⟩, ty, pos, af, none⟩ = false := lays_q rfl
theorem rE_call0 {f : FuncId} {args : Array Operand} {ts : Array TypeId} : runE P [] ops N i r m (⟨d, .call ⟨.value (.func f), args, ts⟩, ty, pos, af, none⟩ :: l) τ H sh KD = (∃ x, CallQ P N H (evalA τ (.func f)) (args.toList.map (evalA τ)) x ∧ runE P [] ops N (i + 1) r m l (τ.put d x) H sh KD) := by rw [runE_n, ly_call0]; exact cE_call0
theorem cE_callt {f : Nat} {args : Array Operand} {ts : Array TypeId} {fresh : Bool} {KX : AV → AHeap → List (Nat × Nat) → Prop} : coreE P fr N r fresh m ⟨d, .call ⟨.value (.tmp f), args, ts⟩, ty, pos, af, none⟩ τ H sh KX = (∃ x, CallQ P N H (evalA τ (.tmp f)) (args.toList.map (evalA τ)) x ∧ KX x H sh) := (coreE_q rfl).trans q_call
theorem ly_callt {f : Nat} {args : Array Operand} {ts : Array TypeId} : lays fr ⟨d, .call ⟨.value (.tmp f), args, ts⟩, ty, pos, af, none⟩ = false := lays_q rfl
theorem rE_callt {f : Nat} {args : Array Operand} {ts : Array TypeId} : runE P fr ops N i r m (⟨d, .call ⟨.value (.tmp f), args, ts⟩, ty, pos, af, none⟩ :: l) τ H sh KD = (∃ x, CallQ P N H (evalA τ (.tmp f)) (args.toList.map (evalA τ)) x ∧ runE P fr ops N (i + 1) r m l (τ.put d x) H sh KD) := by rw [runE_n, ly_callt]; exact cE_callt
theorem cE_box {t : TypeId} {y : Operand} {fresh : Bool} {KX : AV → AHeap → List (Nat × Nat) → Prop} : coreE P fr N r fresh m ⟨d, .box t y, ty, pos, af, none⟩ τ H sh KX = LayK P N r (alsL m af.toList) (evalA τ) (.box t y) H sh KX := rfl
theorem ly_box {t : TypeId} {y : Operand} : lays fr ⟨d, .box t y, ty, pos, af, none⟩ = true := rfl
theorem rE_box {t : TypeId} {y : Operand} : runE P fr ops N i r m (⟨d, .box t y, ty, pos, af, none⟩ :: l) τ H sh KD = LayK P N r (alsL m af.toList) (evalA τ) (.box t y) H sh fun x H' sh' => runE P fr ops N (i + 1) (r + 1) ((i, r) :: m) l (τ.put d x) H' sh' KD := by rw [runE_n, ly_box]; rfl
theorem cE_alloc {t : TypeId} {fresh : Bool} {KX : AV → AHeap → List (Nat × Nat) → Prop} : coreE P fr N r fresh m ⟨d, .alloc t, ty, pos, af, none⟩ τ H sh KX = LayK P N r (alsL m af.toList) (evalA τ) (.alloc t) H sh KX := rfl
theorem ly_alloc {t : TypeId} : lays fr ⟨d, .alloc t, ty, pos, af, none⟩ = true := rfl
theorem rE_alloc {t : TypeId} : runE P fr ops N i r m (⟨d, .alloc t, ty, pos, af, none⟩ :: l) τ H sh KD = LayK P N r (alsL m af.toList) (evalA τ) (.alloc t) H sh fun x H' sh' => runE P fr ops N (i + 1) (r + 1) ((i, r) :: m) l (τ.put d x) H' sh' KD := by rw [runE_n, ly_alloc]; rfl
theorem cE_make {t : TypeId} {y z : Operand} {fresh : Bool} {KX : AV → AHeap → List (Nat × Nat) → Prop} : coreE P fr N r fresh m ⟨d, .makeSlice t y z, ty, pos, af, none⟩ τ H sh KX = LayK P N r (alsL m af.toList) (evalA τ) (.makeSlice t y z) H sh KX := rfl
theorem ly_make {t : TypeId} {y z : Operand} : lays fr ⟨d, .makeSlice t y z, ty, pos, af, none⟩ = true := rfl
theorem rE_make {t : TypeId} {y z : Operand} : runE P fr ops N i r m (⟨d, .makeSlice t y z, ty, pos, af, none⟩ :: l) τ H sh KD = LayK P N r (alsL m af.toList) (evalA τ) (.makeSlice t y z) H sh fun x H' sh' => runE P fr ops N (i + 1) (r + 1) ((i, r) :: m) l (τ.put d x) H' sh' KD := by rw [runE_n, ly_make]; rfl
theorem cE_bs {t : TypeId} {n : Nat} {ps : Array (Nat × Operand)} {fresh : Bool} {KX : AV → AHeap → List (Nat × Nat) → Prop} : coreE P fr N r fresh m ⟨d, .buildSlice t n ps, ty, pos, af, none⟩ τ H sh KX = LayK P N r (alsL m af.toList) (evalA τ) (.buildSlice t n ps) H sh KX := rfl
theorem ly_bs {t : TypeId} {n : Nat} {ps : Array (Nat × Operand)} : lays fr ⟨d, .buildSlice t n ps, ty, pos, af, none⟩ = true := rfl
theorem rE_bs {t : TypeId} {n : Nat} {ps : Array (Nat × Operand)} : runE P fr ops N i r m (⟨d, .buildSlice t n ps, ty, pos, af, none⟩ :: l) τ H sh KD = LayK P N r (alsL m af.toList) (evalA τ) (.buildSlice t n ps) H sh fun x H' sh' => runE P fr ops N (i + 1) (r + 1) ((i, r) :: m) l (τ.put d x) H' sh' KD := by rw [runE_n, ly_bs]; rfl
theorem cE_app {args : Array Operand} {ts : Array TypeId} {fresh : Bool} {KX : AV → AHeap → List (Nat × Nat) → Prop} : coreE P fr N r fresh m ⟨d, .call ⟨.builtin .append, args, ts⟩, ty, pos, af, none⟩ τ H sh KX = LayK P N r (alsL m af.toList) (evalA τ) (.call ⟨.builtin .append, args, ts⟩) H sh KX := rfl
theorem ly_app {args : Array Operand} {ts : Array TypeId} : lays fr ⟨d, .call ⟨.builtin .append, args, ts⟩, ty, pos, af, none⟩ = true := rfl
theorem rE_app {args : Array Operand} {ts : Array TypeId} : runE P fr ops N i r m (⟨d, .call ⟨.builtin .append, args, ts⟩, ty, pos, af, none⟩ :: l) τ H sh KD = LayK P N r (alsL m af.toList) (evalA τ) (.call ⟨.builtin .append, args, ts⟩) H sh fun x H' sh' => runE P fr ops N (i + 1) (r + 1) ((i, r) :: m) l (τ.put d x) H' sh' KD := by rw [runE_n, ly_app]; rfl
theorem rE_store {t : TypeId} {y z : Operand} : runE P fr ops N i r m (⟨d, .store t y z, ty, pos, af, none⟩ :: l) τ H sh KD = ∃ H', OpD P (evalA τ) (.store t y z) H sh (if freshSt ops ⟨d, .store t y z, ty, pos, af, none⟩ then N else 0) H' ∧ runE P fr ops N (i + 1) r m l (τ.put d (.d (.val undef))) H' sh KD := by
  rw [runE_n]; rfl
end
/-! ### Laying, equation by equation -/
section
variable {P : Program} {τ : Fr} {H : AHeap} {sh : List (Nat × Nat)} {N r : Nat} {al : List Nat} {ρ : Operand → AV} {KX : AV → AHeap → List (Nat × Nat) → Prop} {K : AV → AHeap → Prop} {t : TypeId}
theorem appOk_box {y : Operand} : appOk N al ρ (.box t y) = True := rfl
theorem set_free (H : AHeap) (o : AObj) : (H ++ [AObj.free]).set H.length o = H ++ [o] := by
  rw [List.set_append_right _ _ (Nat.le_refl _), Nat.sub_self]; rfl
theorem t_box {y : Operand} : (∃ x H', OpA P false H.length ρ (.box t y) (H ++ [.free]) [] x H' [] ∧ K x H') = ∃ cs, asCells (ρ y) = some cs ∧ K (.op H.length 0) (H ++ [.cells cs]) := by
  refine propext ⟨?_, ?_⟩
  · rintro ⟨x, H', ⟨cs, h1, rfl, rfl, _⟩, h2⟩; rw [set_free] at h2; exact ⟨cs, h1, h2⟩
  · rintro ⟨cs, h1, h2⟩; exact ⟨_, _, ⟨cs, h1, rfl, rfl, rfl⟩, by rw [set_free]; exact h2⟩
theorem e_box {y : Operand} : LayK P N r al ρ (.box t y) H sh KX = (H[N + r]? = some .free ∧ shOk (N + r) sh ∧ ∃ cs, asCells (ρ y) = some cs ∧ KX (.op (N + r) 0) (H.set (N + r) (.cells cs)) sh) := by
  refine propext ⟨?_, ?_⟩
  · rintro ⟨h1, h2, _, x, H', sh', ⟨cs, h3, rfl, rfl, rfl⟩, h4⟩; exact ⟨h1, (shOk_iff _ _).2 h2, cs, h3, h4⟩
  · rintro ⟨h1, h2, cs, h3, h4⟩; exact ⟨h1, (shOk_iff _ _).1 h2, trivial, _, _, _, ⟨cs, h3, rfl, rfl, rfl⟩, h4⟩
theorem t_alloc : (∃ x H', OpA P false H.length ρ (.alloc t) (H ++ [.free]) [] x H' [] ∧ K x H') = ∃ zs, zaO P t = some zs ∧ K (.op H.length 0) (H ++ [.cells (zs.map .d)]) := by
  refine propext ⟨?_, ?_⟩
  · rintro ⟨x, H', ⟨zs, h0, h1, rfl, rfl, _⟩, h2⟩; rw [set_free] at h2; exact ⟨zs, by unfold zaO; rw [h0]; simp only; rw [if_pos h1], h2⟩
  · rintro ⟨zs, h1, h2⟩; obtain ⟨h3, h4⟩ := zaO_spec h1; exact ⟨_, _, ⟨zs, h3, h4, rfl, rfl, rfl⟩, by rw [set_free]; exact h2⟩
theorem e_alloc : LayK P N r al ρ (.alloc t) H sh KX = (H[N + r]? = some .free ∧ shOk (N + r) sh ∧ ∃ zs, zaO P t = some zs ∧ KX (.op (N + r) 0) (H.set (N + r) (.cells (zs.map .d))) sh) := by
  refine propext ⟨?_, ?_⟩
  · rintro ⟨h1, h2, _, x, H', sh', ⟨zs, h5, h3, rfl, rfl, rfl⟩, h4⟩; exact ⟨h1, (shOk_iff _ _).2 h2, zs, by unfold zaO; rw [h5]; simp only; rw [if_pos h3], h4⟩
  · rintro ⟨h1, h2, zs, h3, h4⟩; obtain ⟨h5, h6⟩ := zaO_spec h3; exact ⟨h1, (shOk_iff _ _).1 h2, trivial, _, _, _, ⟨zs, h5, h6, rfl, rfl, rfl⟩, h4⟩
def MakeK (P : Program) (t : TypeId) (y z : AV) (KK : Nat → Nat → List AV → Prop) : Prop := ∃ (q : Nat × List D × Nat) (k1 k2 : IntKind) (n m : Int), mkO P t = some q ∧ y = .d (.val (.int k1 n)) ∧ z = .d (.val (.int k2 m)) ∧ 0 ≤ n ∧ n ≤ m ∧ m ≤ maxLen ∧ q.2.2 * m.toNat ≤ 281474976710656 ∧ KK q.1 n.toNat (reps n.toNat q.2.1)
theorem make_int {k1 k2 : IntKind} {n m : Int} {KK : Nat → Nat → List AV → Prop} : MakeK P t (.d (.val (.int k1 n))) (.d (.val (.int k2 m))) KK = ∃ q, mkO P t = some q ∧ 0 ≤ n ∧ n ≤ m ∧ m ≤ 9223372036854775807 ∧ q.2.2 * m.toNat ≤ 281474976710656 ∧ KK q.1 n.toNat (reps n.toNat q.2.1) := by
  refine propext ⟨?_, ?_⟩
  · rintro ⟨q, k1', k2', n', m', h1, h2, h3, h4, h5, h6, h7, h8⟩; cases h2; cases h3; exact ⟨q, h1, h4, h5, by unfold maxLen at h6; omega, h7, h8⟩
  · rintro ⟨q, h1, h4, h5, h6, h7, h8⟩; exact ⟨q, k1, k2, n, m, h1, rfl, rfl, h4, h5, by unfold maxLen; omega, h7, h8⟩
theorem make_opA {dr : Bool} {nid : Nat} {y z : Operand} {x : AV} {H' : AHeap} {sh' : List (Nat × Nat)} : OpA P dr nid ρ (.makeSlice t y z) H sh x H' sh' ↔ MakeK P t (ρ y) (ρ z) fun s n l => x = .os s nid 0 n ∧ H' = H.set nid (.cells l) ∧ sh' = sh := by
  constructor
  · rintro ⟨e, s, zs, bts, k1, k2, n, m, he, hz, hl, h0, h1, hby, h2, h3, h4, h5, h6, h7, h8, h9, h10⟩
    exact ⟨(s, zs, bts), k1, k2, n, m, by unfold mkO; rw [he]; simp only; rw [hz, hby]; simp only; rw [if_pos ⟨hl, h0, h1⟩], h2, h3, h4, h5, h6, h7, h8, h9, h10⟩
  · rintro ⟨⟨s, zs, bts⟩, k1, k2, n, m, hq, h2, h3, h4, h5, h6, h7, h8, h9, h10⟩
    obtain ⟨e, he, hz, hby, hl, h0, h1⟩ := mkO_spec hq
    exact ⟨e, s, zs, bts, k1, k2, n, m, he, hz, hl, h0, h1, hby, h2, h3, h4, h5, h6, h7, h8, h9, h10⟩
theorem t_make {y z : Operand} : (∃ x H', OpA P false H.length ρ (.makeSlice t y z) (H ++ [.free]) [] x H' [] ∧ K x H') = MakeK P t (ρ y) (ρ z) fun s n l => K (.os s H.length 0 n) (H ++ [.cells l]) := by
  refine propext ⟨?_, ?_⟩
  · rintro ⟨x, H', h, h2⟩
    obtain ⟨q, k1, k2, n, m, h1, h3, h4, h5, h6, h7, h8, rfl, rfl, _⟩ := make_opA.1 h
    rw [set_free] at h2
    exact ⟨q, k1, k2, n, m, h1, h3, h4, h5, h6, h7, h8, h2⟩
  · rintro ⟨q, k1, k2, n, m, h1, h3, h4, h5, h6, h7, h8, h9⟩
    exact ⟨_, _, make_opA.2 ⟨q, k1, k2, n, m, h1, h3, h4, h5, h6, h7, h8, rfl, rfl, rfl⟩, by rw [set_free]; exact h9⟩
theorem e_make {y z : Operand} : LayK P N r al ρ (.makeSlice t y z) H sh KX = (H[N + r]? = some .free ∧ shOk (N + r) sh ∧ MakeK P t (ρ y) (ρ z) fun s n l => KX (.os s (N + r) 0 n) (H.set (N + r) (.cells l)) sh) := by
  refine propext ⟨?_, ?_⟩
  · rintro ⟨e1, e2, _, x, H', sh', h, h2⟩
    obtain ⟨q, k1, k2, n, m, h1, h3, h4, h5, h6, h7, h8, rfl, rfl, rfl⟩ := make_opA.1 h
    exact ⟨e1, (shOk_iff _ _).2 e2, q, k1, k2, n, m, h1, h3, h4, h5, h6, h7, h8, h2⟩
  · rintro ⟨e1, e2, q, k1, k2, n, m, h1, h3, h4, h5, h6, h7, h8, h9⟩
    exact ⟨e1, (shOk_iff _ _).1 e2, trivial, _, _, _, make_opA.2 ⟨q, k1, k2, n, m, h1, h3, h4, h5, h6, h7, h8, rfl, rfl, rfl⟩, h9⟩
def BsK (P : Program) (t : TypeId) (len : Nat) (ps : List (Nat × AV)) (KK : Nat → List AV → Prop) : Prop := ∃ q, mkO P t = some q ∧ len * q.1 ≤ 16777216 ∧ ∃ cs, fillA (fun i => some (i * q.1, q.1)) (reps len q.2.1) ps = some cs ∧ KK q.1 cs
theorem bs_opA {dr : Bool} {nid n : Nat} {ps : Array (Nat × Operand)} {x : AV} {H' : AHeap} {sh' : List (Nat × Nat)} (h : BsK P t n (ps.toList.map fun p => (p.1, ρ p.2)) fun s l => (x = .os s nid 0 n ∧ H' = H.set nid (.cells l) ∨ ∃ ds : List D, l = ds.map .d ∧ ds.length = n * s ∧ x = .d (.fs ds n) ∧ H' = H.set nid .dead) ∧ sh' = sh) : OpA P dr nid ρ (.buildSlice t n ps) H sh x H' sh' := by
  obtain ⟨⟨s, zs, bts⟩, hq, h2, cs, h3, h4⟩ := h
  obtain ⟨e, he, hz, hby, hl, h0, h1⟩ := mkO_spec hq
  exact ⟨e, s, zs, cs, he, hz, hl, h0, h1, h2, h3, h4⟩
theorem has_bytes (e : TypeId) (s : Nat) (he : elO P t = some (none, e, s)) : (byO P e).isSome = true := by
  have := (elO_slice he).2
  unfold szO at this
  obtain ⟨i, hi, _⟩ := Option.map_eq_some_iff.1 this
  unfold byO; rw [hi]; rfl
theorem t_bs {n : Nat} {ps : Array (Nat × Operand)} (h : BsK P t n (ps.toList.map fun p => (p.1, ρ p.2)) fun s l => K (.os s H.length 0 n) (H ++ [.cells l])) : ∃ x H', OpA P false H.length ρ (.buildSlice t n ps) (H ++ [.free]) [] x H' [] ∧ K x H' := by
  obtain ⟨q, h1, h3, cs, h4, h5⟩ := h
  exact ⟨_, _, bs_opA ⟨q, h1, h3, cs, h4, .inl ⟨rfl, rfl⟩, rfl⟩, by rw [set_free]; exact h5⟩
theorem e_bs {n : Nat} {ps : Array (Nat × Operand)} (h : H[N + r]? = some .free ∧ shOk (N + r) sh ∧ BsK P t n (ps.toList.map fun p => (p.1, ρ p.2)) fun s l => KX (.os s (N + r) 0 n) (H.set (N + r) (.cells l)) sh) : LayK P N r al ρ (.buildSlice t n ps) H sh KX := by
  obtain ⟨e1, e2, q, h1, h3, cs, h4, h5⟩ := h
  exact ⟨e1, (shOk_iff _ _).1 e2, trivial, _, _, _, bs_opA ⟨q, h1, h3, cs, h4, .inl ⟨rfl, rfl⟩, rfl⟩, h5⟩
theorem e_bsz {n : Nat} {ps : Array (Nat × Operand)} (h : H[N + r]? = some .free ∧ shOk (N + r) sh ∧ BsK P t n (ps.toList.map fun p => (p.1, ρ p.2)) fun s l => ∃ ds : List D, l = ds.map .d ∧ ds.length = n * s ∧ KX (.d (.fs ds n)) (H.set (N + r) .dead) sh) : LayK P N r al ρ (.buildSlice t n ps) H sh KX := by
  obtain ⟨e1, e2, q, h1, h3, cs, h4, ds, h5, h6, h7⟩ := h
  exact ⟨e1, (shOk_iff _ _).1 e2, trivial, _, _, _, bs_opA ⟨q, h1, h3, cs, h4, .inr ⟨ds, h5, h6, rfl, rfl⟩, rfl⟩, h7⟩
/-- What an append gives: base of k cells an element, n elements; m more. -/
def SrcK (H : AHeap) (k : Nat) (src : AV) (G : Nat → List AV → Prop) : Prop := ∃ m l, SrcA H k src m l ∧ G m l
theorem src_fs {k n : Nat} {cs : List D} {G : Nat → List AV → Prop} : SrcK H k (.d (.fs cs n)) G = (cs.length = n * k ∧ G n (cs.map .d)) :=
  propext ⟨fun ⟨_, _, ⟨h1, h2, h3⟩, h4⟩ => ⟨h1, h2 ▸ h3 ▸ h4⟩, fun ⟨h1, h2⟩ => ⟨n, _, ⟨h1, rfl, rfl⟩, h2⟩⟩
theorem src_os {k k' id off n : Nat} {G : Nat → List AV → Prop} : SrcK H k (.os k' id off n) G = (k' = k ∧ ∃ cs, H[id]? = some (.cells cs) ∧ ∃ l, takeD cs off (n * k) = some l ∧ G n l) :=
  propext ⟨fun ⟨_, l, ⟨h1, cs, h2, h3, h4⟩, h5⟩ => ⟨h1, cs, h2, l, h3, h4 ▸ h5⟩, fun ⟨h1, cs, h2, l, h3, h5⟩ => ⟨n, l, ⟨h1, cs, h2, h3, rfl⟩, h5⟩⟩
theorem src_nil {k : Nat} {G : Nat → List AV → Prop} : SrcK H k (.d (.val (.slice none 0 0))) G = G 0 [] :=
  propext ⟨fun ⟨_, _, ⟨h1, h2⟩, h3⟩ => h1 ▸ h2 ▸ h3, fun h => ⟨0, [], ⟨rfl, rfl⟩, h⟩⟩
def AppT (P : Program) (t : TypeId) (base src : AV) (H : AHeap) (K : AV → AHeap → Prop) : Prop :=
  match base with
  | .os k id off n => ∃ q, mkO P t = some q ∧ k = q.1 ∧ ∃ cs, H[id]? = some (.cells cs) ∧ off + n * k = cs.length ∧ SrcK H k src fun m l => n + m ≤ 9223372036854775807 ∧ (n + m) * q.2.2 ≤ 140737488355328 ∧ K (.os k H.length 0 (n + m)) (H.set id .dead ++ [.cells (cs.drop off ++ l)])
  | .d (.val (.slice none 0 0)) => ∃ q, mkO P t = some q ∧ SrcK H q.1 src fun m l => m ≤ 9223372036854775807 ∧ m * q.2.2 ≤ 140737488355328 ∧ K (.os q.1 H.length 0 m) (H ++ [.cells l])
  | _ => False
def AppE (P : Program) (N r : Nat) (al : List Nat) (t : TypeId) (base src : AV) (H : AHeap) (sh : List (Nat × Nat)) (KX : AV → AHeap → List (Nat × Nat) → Prop) : Prop :=
  H[N + r]? = some .free ∧ shOk (N + r) sh ∧ baseOk N al base = true ∧ baseOk N al src = true ∧ match base with
  | .os k id off n => ∃ q, mkO P t = some q ∧ k = q.1 ∧ ∃ cs, H[id]? = some (.cells cs) ∧ off + n * k = cs.length ∧ (∀ p ∈ sh, p.2 ≠ id) ∧ SrcK H k src fun m l => n + m ≤ 9223372036854775807 ∧ (n + m) * q.2.2 ≤ 140737488355328 ∧ KX (.os k (N + r) 0 (n + m)) (H.set (N + r) (.cells (cs.drop off ++ l))) (appSh sh id (N + r))
  | .d (.val (.slice none 0 0)) => ∃ q, mkO P t = some q ∧ SrcK H q.1 src fun m l => m ≤ 9223372036854775807 ∧ m * q.2.2 ≤ 140737488355328 ∧ KX (.os q.1 (N + r) 0 m) (H.set (N + r) (.cells l)) sh
  | _ => False
theorem e_app {s y : Operand} {t' : TypeId} (ht : t' = t) : AppE P N r al t (ρ s) (ρ y) H sh KX → LayK P N r al ρ (.call ⟨.builtin .append, #[s, y], #[t, t']⟩) H sh KX := by
  subst ht
  rintro ⟨h1, h2, hb1, hb2, h3⟩
  refine ⟨h1, (shOk_iff _ _).1 h2, fun z hz => ?_, ?_⟩
  · simp only [List.mem_cons, List.not_mem_nil, or_false] at hz
    rcases hz with rfl | rfl
    · exact hb1
    · exact hb2
  · split at h3
    · rename_i k id off n e
      obtain ⟨⟨s', zs, bts⟩, hq, rfl, cs, h4, h5, h6, m, l, h7, h8, h9, h10⟩ := h3
      obtain ⟨e', he, hz, hby, hl, h0, h1'⟩ := mkO_spec hq
      exact ⟨_, _, _, ⟨rfl, e', _, zs, bts, m, l, he, hz, hl, hby, h7, by rw [e]; exact ⟨cs, rfl, h4, h5, by unfold maxLen; omega, h9, rfl, h6, rfl, rfl⟩⟩, h10⟩
    · rename_i e
      obtain ⟨⟨s', zs, bts⟩, hq, m, l, h7, h8, h9, h10⟩ := h3
      obtain ⟨e', he, hz, hby, hl, h0, h1'⟩ := mkO_spec hq
      exact ⟨_, _, _, ⟨rfl, e', s', zs, bts, m, l, he, hz, hl, hby, h7, by rw [e]; exact ⟨by unfold maxLen; omega, h9, rfl, rfl, rfl⟩⟩, h10⟩
    · exact h3.elim
theorem SrcA_app {k m : Nat} {src : AV} {l : List AV} (h : SrcA H k src m l) : SrcA (H ++ [.free]) k src m l := by
  unfold SrcA at h ⊢
  split at h
  · exact h
  · obtain ⟨h1, cs, h2, h3⟩ := h
    exact ⟨h1, cs, by rw [List.getElem?_append_left (List.getElem?_eq_some_iff.1 h2).1]; exact h2, h3⟩
  · exact h
  · exact h
theorem t_app {s y : Operand} {t' : TypeId} (ht : t' = t) : AppT P t (ρ s) (ρ y) H K → ∃ x H', OpA P false H.length ρ (.call ⟨.builtin .append, #[s, y], #[t, t']⟩) (H ++ [.free]) [] x H' [] ∧ K x H' := by
  subst ht
  intro h3
  unfold AppT at h3
  split at h3
  · rename_i k id off n e
    obtain ⟨⟨s', zs, bts⟩, hq, rfl, cs, h4, h5, m, l, h7, h8, h9, h10⟩ := h3
    obtain ⟨e', he, hz, hby, hl, h0, h1'⟩ := mkO_spec hq
    have hlt := (List.getElem?_eq_some_iff.1 h4).1
    refine ⟨_, _, ⟨rfl, e', _, zs, bts, m, l, he, hz, hl, hby, SrcA_app h7, by rw [e]; exact ⟨cs, rfl, by rw [List.getElem?_append_left hlt]; exact h4, h5, by unfold maxLen; omega, h9, rfl, rfl, rfl, rfl⟩⟩, ?_⟩
    rw [set_free, List.set_append_left _ _ hlt]; exact h10
  · rename_i e
    obtain ⟨⟨s', zs, bts⟩, hq, m, l, h7, h8, h9, h10⟩ := h3
    obtain ⟨e', he, hz, hby, hl, h0, h1'⟩ := mkO_spec hq
    refine ⟨_, _, ⟨rfl, e', s', zs, bts, m, l, he, hz, hl, hby, SrcA_app h7, by rw [e]; exact ⟨by unfold maxLen; omega, h9, rfl, rfl, rfl⟩⟩, ?_⟩
    rw [set_free]; exact h10
  · exact h3.elim
def StoreK (P : Program) (t : TypeId) (p y : AV) (H : AHeap) (sh : List (Nat × Nat)) (N1 : Nat) (KK : AHeap → Prop) : Prop := ∃ id i, p = .op id i ∧ ∃ cs, H[id]? = some (.cells cs) ∧ ∃ l, asCells y = some l ∧ szO P t = some l.length ∧ i + l.length ≤ cs.length ∧ shOk id sh ∧ N1 ≤ id ∧ KK (H.set id (.cells (setMany cs i l)))
theorem d_store {y z : Operand} {N1 : Nat} {KK : AHeap → Prop} : (∃ H', OpD P ρ (.store t y z) H sh N1 H' ∧ KK H') = StoreK P t (ρ y) (ρ z) H sh N1 KK := by
  refine propext ⟨?_, ?_⟩
  · rintro ⟨H', ⟨id, i, cs, l, h1, h2, h3, h4, h5, h6, h7, rfl⟩, h8⟩; exact ⟨id, i, h1, cs, h2, l, h4, h3, h5, (shOk_iff _ _).2 h6, h7, h8⟩
  · rintro ⟨id, i, h1, cs, h2, l, h4, h3, h5, h6, h7, h8⟩; exact ⟨_, ⟨id, i, cs, l, h1, h2, h3, h4, h5, (shOk_iff _ _).1 h6, h7, rfl⟩, h8⟩
theorem store_op {id i : Nat} {y : AV} {N1 : Nat} {KK : AHeap → Prop} : StoreK P t (.op id i) y H sh N1 KK = ∃ cs, H[id]? = some (.cells cs) ∧ ∃ l, asCells y = some l ∧ szO P t = some l.length ∧ i + l.length ≤ cs.length ∧ shOk id sh ∧ N1 ≤ id ∧ KK (H.set id (.cells (setMany cs i l))) := by
  refine propext ⟨?_, ?_⟩
  · rintro ⟨id', i', h1, h2⟩; cases h1; exact h2
  · intro h; exact ⟨id, i, rfl, h⟩
variable {KA : AV → Prop} {cs : List AV}
theorem build_eq {ps : List (Nat × AV)} : (∃ x, BuildQ P t ps x ∧ KA x) = (plAll P t = true ∧ ∃ zs, zaO P t = some zs ∧ ∃ cs, fillA (plO P t) (zs.map .d) ps = some cs ∧ KA (.agg cs)) := by
  refine propext ⟨?_, ?_⟩
  · rintro ⟨x, ⟨h0, zs, cs, h1, h2, h3, rfl⟩, h4⟩; exact ⟨h0, zs, by unfold zaO; rw [h1]; simp only; rw [if_pos h2], cs, h3, h4⟩
  · rintro ⟨h0, zs, h1, cs, h3, h4⟩; obtain ⟨h5, h6⟩ := zaO_spec h1; exact ⟨_, ⟨h0, zs, cs, h5, h6, h3, rfl⟩, h4⟩
theorem field_agg {f : Nat} : (∃ x, FieldQ P t f (.agg cs) x ∧ KA x) = ∃ q, ftO P t f = some q ∧ if q.2.2 then ∃ l, takeD cs q.1 q.2.1 = some l ∧ KA (.agg l) else ∃ x, cs[q.1]? = some x ∧ KA x := by
  refine propext ⟨?_, ?_⟩
  · rintro ⟨x, ⟨o, n, g, cs', h1, h2, h3⟩, h4⟩
    cases h2
    refine ⟨(o, n, g), h1, ?_⟩
    cases g
    · exact ⟨x, h3, h4⟩
    · obtain ⟨l, h5, rfl⟩ := h3; exact ⟨l, h5, h4⟩
  · rintro ⟨⟨o, n, g⟩, h1, h2⟩
    cases g
    · obtain ⟨x, h3, h4⟩ := h2; exact ⟨x, ⟨o, n, false, cs, h1, rfl, h3⟩, h4⟩
    · obtain ⟨l, h3, h4⟩ := h2; exact ⟨_, ⟨o, n, true, cs, h1, rfl, l, h3, rfl⟩, h4⟩
theorem field_dagg {f : Nat} {ds : List D} : (∃ x, FieldQ P t f (.d (.agg ds)) x ∧ KA x) = ∃ x, FieldQ P t f (.agg (ds.map .d)) x ∧ KA x := by
  refine propext ⟨?_, ?_⟩
  · rintro ⟨x, ⟨o, n, g, cs', h1, h2, h3⟩, h4⟩
    cases h2; exact ⟨x, ⟨o, n, g, _, h1, rfl, h3⟩, h4⟩
  · rintro ⟨x, ⟨o, n, g, cs', h1, h2, h3⟩, h4⟩
    cases h2; exact ⟨x, ⟨o, n, g, _, h1, rfl, h3⟩, h4⟩
/-- Of an array: how many, each one's size, whether it has parts. -/
def elG (P : Program) (t : TypeId) : Option (Nat × Nat × Bool) := match elO P t with | some (some n, e, s) => (agO P e).map fun g => (n, s, g) | _ => none
theorem index_agg {kd : IntKind} {m : Int} : (∃ x, IndexQ P t (.agg cs) (.d (.val (.int kd m))) x ∧ KA x) = ∃ q, elG P t = some q ∧ 0 ≤ m ∧ m < q.1 ∧ if q.2.2 then ∃ l, takeD cs (m.toNat * q.2.1) q.2.1 = some l ∧ KA (.agg l) else ∃ x, cs[m.toNat * q.2.1]? = some x ∧ KA x := by
  refine propext ⟨?_, ?_⟩
  · rintro ⟨x, ⟨kd', i, len, e, s, g, cs', h1, h2, h3, h4, h5, h6, h7⟩ | ⟨_, _, _, _, _, _, h4, _⟩, h8⟩
    rotate_left
    · cases h4
    cases h1; cases h4
    refine ⟨(len, s, g), by unfold elG; rw [h2]; simp only; rw [h3]; rfl, h5, h6, ?_⟩
    cases g
    · exact ⟨x, h7, h8⟩
    · obtain ⟨l, h9, rfl⟩ := h7; exact ⟨l, h9, h8⟩
  · rintro ⟨⟨n, s, g⟩, h1, h2, h3, h4⟩
    unfold elG at h1
    split at h1
    · rename_i n' e s' he
      obtain ⟨g', hg, hh⟩ := Option.map_eq_some_iff.1 h1
      cases hh
      cases g
      · obtain ⟨x, h5, h6⟩ := h4; exact ⟨x, .inl ⟨kd, m, n, e, s, false, cs, rfl, he, hg, rfl, h2, h3, h5⟩, h6⟩
      · obtain ⟨l, h5, h6⟩ := h4; exact ⟨_, .inl ⟨kd, m, n, e, s, true, cs, rfl, he, hg, rfl, h2, h3, l, h5, rfl⟩, h6⟩
    · cases h1
theorem index_dagg {ix : AV} {ds : List D} : (∃ x, IndexQ P t (.d (.agg ds)) ix x ∧ KA x) = ∃ x, IndexQ P t (.agg (ds.map .d)) ix x ∧ KA x := by
  refine propext ⟨?_, ?_⟩
  · rintro ⟨x, ⟨kd', i, len, e, s, g, cs', h1, h2, h3, h4, h5⟩ | ⟨_, _, _, _, _, _, h4, _⟩, h8⟩
    rotate_left
    · cases h4
    cases h4; exact ⟨x, .inl ⟨kd', i, len, e, s, g, _, h1, h2, h3, rfl, h5⟩, h8⟩
  · rintro ⟨x, ⟨kd', i, len, e, s, g, cs', h1, h2, h3, h4, h5⟩ | ⟨_, _, _, _, _, _, h4, _⟩, h8⟩
    rotate_left
    · cases h4
    cases h4; exact ⟨x, .inl ⟨kd', i, len, e, s, g, _, h1, h2, h3, rfl, h5⟩, h8⟩
theorem extract_tup {vs : List AV} {i : Nat} : (∃ x, (∃ us, AV.tup vs = .tup us ∧ us[i]? = some x) ∧ KA x) = ∃ x, vs[i]? = some x ∧ KA x := by
  refine propext ⟨?_, ?_⟩
  · rintro ⟨x, ⟨us, h1, h2⟩, h3⟩; cases h1; exact ⟨x, h2, h3⟩
  · rintro ⟨x, h2, h3⟩; exact ⟨x, ⟨vs, rfl, h2⟩, h3⟩
theorem reps_one (n : Nat) (z : D) : reps n [z] = List.replicate n (.d z) := rfl
theorem reps_zero (zs : List D) : reps 0 zs = [] := by unfold reps; split <;> rfl
/-- A call, by its contract. -/
theorem call_by {N : Nat} {f : FuncId} {args : List AV} {ds : List D} {x : AV} (hp : PCalls P f ds x) (hd : AV.toD.toDs args = some ds) (hK : KA x) : ∃ x, CallQ P N H (.d (.val (.func (.func f) #[] #[]))) args x ∧ KA x :=
  ⟨x, ⟨f, [], [], ds, rfl, .inl ⟨.inl (by simpa using hd), hp⟩⟩, hK⟩
/-- A call with own slices among what it is handed, that returns a number or a bool. -/
theorem call_own {N : Nat} {f : FuncId} {args : List AV} {ds : List D} {v : Value} (hp : PCalls P f ds (.d (.val v))) (hd : deepL (lookH H N) 9 args = some ds) (hK : KA (.d (.val v))) : ∃ x, CallQ P N H (.d (.val (.func (.func f) #[] #[]))) args x ∧ KA x :=
  ⟨_, ⟨f, [], [], ds, rfl, .inl ⟨.inr ⟨rfl, by simpa using hd⟩, hp⟩⟩, hK⟩
/-- A call of whose result no more is known than that. -/
theorem call_rel {f : FuncId} {args : List AV} {ds : List D} {Q : AV → Prop} {IC : FuncId → List AV → Prop} {KA : AV → Prop} (hp : RCalls P f ds Q) (hd : AV.toD.toDs args = some ds) (hK : ∀ x, Q x → KA x) :
    ∃ n fi ca, calleeOf (.d (.val (.func (.func f) #[] #[]))) = some (n, fi, ca) ∧ (IC n (fi ++ args ++ ca) ∨ ∃ ds Q, AV.toD.toDs (fi ++ args ++ ca) = some ds ∧ RCalls P n ds Q ∧ ∀ x, Q x → KA x) :=
  ⟨f, [], [], rfl, .inr ⟨ds, Q, by simpa using hd, hp, hK⟩⟩
/-- A call carried out within the caller's own objects. -/
theorem call_in {f : FuncId} {args : List AV} {IC : FuncId → List AV → Prop} {R : FuncId → List AV → Prop} (h : IC f args) :
    ∃ n fi ca, calleeOf (.d (.val (.func (.func f) #[] #[]))) = some (n, fi, ca) ∧ (IC n (fi ++ args ++ ca) ∨ R n (fi ++ args ++ ca)) :=
  ⟨f, [], [], rfl, .inl (by simpa using h)⟩
/-- A call with own slices among what it is handed, whose result is new. -/
theorem call_new {N : Nat} {f : FuncId} {args : List AV} {ds : List D} {x : AV} (hp : NCalls P f ds x) (hd : deepL (lookH H N) 9 args = some ds) (hK : KA x) : ∃ x, CallQ P N H (.d (.val (.func (.func f) #[] #[]))) args x ∧ KA x :=
  ⟨_, ⟨f, [], [], ds, rfl, .inr ⟨by simpa using hd, hp⟩⟩, hK⟩
end
end Go.Proofs.Ytinefghmmbggeaa

/- Of no program: small equations of appends; loose ends of the run. -/
set_option linter.unusedVariables false
set_option linter.unusedSimpArgs false
namespace Go.Proofs.Ytinefghmmbggeaa
open Go Go.RowKit
section
variable {P : Program} {H : AHeap} {sh : List (Nat × Nat)} {N r : Nat} {al : List Nat} {t : TypeId} {src : AV} {K : AV → AHeap → Prop} {KX : AV → AHeap → List (Nat × Nat) → Prop}
theorem appT_os {k id off n : Nat} : AppT P t (.os k id off n) src H K = ∃ q, mkO P t = some q ∧ k = q.1 ∧ ∃ cs, H[id]? = some (.cells cs) ∧ off + n * k = cs.length ∧ SrcK H k src fun m l => n + m ≤ 9223372036854775807 ∧ (n + m) * q.2.2 ≤ 140737488355328 ∧ K (.os k H.length 0 (n + m)) (H.set id .dead ++ [.cells (cs.drop off ++ l)]) := rfl
theorem appT_nil : AppT P t (.d (.val (.slice none 0 0))) src H K = ∃ q, mkO P t = some q ∧ SrcK H q.1 src fun m l => m ≤ 9223372036854775807 ∧ m * q.2.2 ≤ 140737488355328 ∧ K (.os q.1 H.length 0 m) (H ++ [.cells l]) := rfl
theorem appE_os {k id off n : Nat} : AppE P N r al t (.os k id off n) src H sh KX = (H[N + r]? = some .free ∧ shOk (N + r) sh ∧ baseOk N al (.os k id off n) = true ∧ baseOk N al src = true ∧ ∃ q, mkO P t = some q ∧ k = q.1 ∧ ∃ cs, H[id]? = some (.cells cs) ∧ off + n * k = cs.length ∧ (∀ p ∈ sh, p.2 ≠ id) ∧ SrcK H k src fun m l => n + m ≤ 9223372036854775807 ∧ (n + m) * q.2.2 ≤ 140737488355328 ∧ KX (.os k (N + r) 0 (n + m)) (H.set (N + r) (.cells (cs.drop off ++ l))) (appSh sh id (N + r))) := rfl
theorem appE_nil : AppE P N r al t (.d (.val (.slice none 0 0))) src H sh KX = (H[N + r]? = some .free ∧ shOk (N + r) sh ∧ baseOk N al (.d (.val (.slice none 0 0))) = true ∧ baseOk N al src = true ∧ ∃ q, mkO P t = some q ∧ SrcK H q.1 src fun m l => m ≤ 9223372036854775807 ∧ m * q.2.2 ≤ 140737488355328 ∧ KX (.os q.1 (N + r) 0 m) (H.set (N + r) (.cells l)) sh) := rfl
theorem baseOk_os {k id off n : Nat} : baseOk N al (.os k id off n) = (decide (id < N) || al.contains (id - N)) := rfl
theorem baseOk_d {d : D} : baseOk N al (.d d) = true := rfl
theorem and_left_true {a b : Prop} (h : a) : (a ∧ b) = b := propext ⟨fun h => h.2, fun h' => ⟨h, h'⟩⟩
end
end Go.Proofs.Ytinefghmmbggeaa
