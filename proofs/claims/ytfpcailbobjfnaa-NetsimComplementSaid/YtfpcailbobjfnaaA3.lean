/- Of no program: the abstract machine's operations that leave memory alone. -/
import Derived.Test.YtfpcailbobjfnaaA2
import Derived.WalkLawsBesides
import Derived.Laws.Rows
set_option linter.unusedVariables false
set_option linter.unusedSimpArgs false
namespace Go.Proofs.Ytfpcailbobjfnaa
open Go Go.RowKit
section
variable {P : Program}
theorem szO_run {t : TypeId} {n : Nat} (h : szO P t = some n) (w : World) : (sizeOf t).run P w = .ok n w := by
  unfold szO at h
  obtain ⟨i, hi, rfl⟩ := Option.map_eq_some_iff.1 h
  simp [sizeOf, typeInfo, hi]
theorem agO_run {t : TypeId} {b : Bool} (h : agO P t = some b) (w : World) : (isAgg t).run P w = .ok b w := by
  unfold agO at h
  obtain ⟨i, hi, rfl⟩ := Option.map_eq_some_iff.1 h
  unfold isAgg
  simp only [Sem.run_bind, run_underlying hi, Result.andThen_ok]
  cases i <;> rfl

/-! ### Numbers -/
def cmpV (op : BinOp) (a b : Int) : Option Value :=
  match op with
  | .eql => some (.bool (a == b))
  | .neq => some (.bool (a != b))
  | .lss => some (.bool (decide (a < b)))
  | .leq => some (.bool (decide (a ≤ b)))
  | .gtr => some (.bool (decide (b < a)))
  | .geq => some (.bool (decide (b ≤ a)))
  | _ => none
def bitV (op : BinOp) (k : IntKind) (a b : Int) : Int :=
  match op with
  | .and => k.wrap (BitVec.ofInt k.bits a &&& BitVec.ofInt k.bits b).toNat
  | .or => k.wrap (BitVec.ofInt k.bits a ||| BitVec.ofInt k.bits b).toNat
  | .xor => k.wrap (BitVec.ofInt k.bits a ^^^ BitVec.ofInt k.bits b).toNat
  | _ => k.wrap (BitVec.ofInt k.bits a &&& ~~~BitVec.ofInt k.bits b).toNat
def binI (op : BinOp) (k : IntKind) (a : Int) (k' : IntKind) (b : Int) : Option Value :=
  match op with
  | .shl => if b < 0 then none else some (.int k (k.wrap (a * 2 ^ min b.toNat k.bits)))
  | .shr => if b < 0 then none else some (.int k (a.fdiv (2 ^ min b.toNat k.bits)))
  | .add => if k = k' then some (.int k (k.wrap (a + b))) else none
  | .sub => if k = k' then some (.int k (k.wrap (a - b))) else none
  | .mul => if k = k' then some (.int k (k.wrap (a * b))) else none
  | .quo => if k = k' ∧ b ≠ 0 then some (.int k (k.wrap (a.tdiv b))) else none
  | .rem => if k = k' ∧ b ≠ 0 then some (.int k (a.tmod b)) else none
  | .and | .or | .xor | .andNot => if k = k' then some (.int k (bitV op k a b)) else none
  | op => if k = k' then cmpV op a b else none
theorem binI_run {op : BinOp} {k k' : IntKind} {a b : Int} {z : Value} (h : binI op k a k' b = some z) (t : TypeId) (w : World) : (binOp op t (.int k a) (.int k' b)).run P w = .ok z w := by
  cases op <;> simp only [binI] at h <;> (try split at h) <;> (try cases h) <;>
    simp_all [binOp, Op.intArith, Op.intDiv, Op.intBits, Op.intCmp, Op.shift, bitV] <;> omega
theorem eqGuard_int {op : BinOp} {k k' : IntKind} {a b : Int} (t : TypeId) (x y : Operand) (w : World) : (eqGuard op t x y (.int k a) (.int k' b)).run P w = .ok () w := by
  unfold eqGuard
  split <;> simp
theorem eqGuard_bool {op : BinOp} {a b : Bool} (t : TypeId) (x y : Operand) (w : World) : (eqGuard op t x y (.bool a) (.bool b)).run P w = .ok () w := by
  unfold eqGuard
  split <;> simp
theorem eqGuard_string {op : BinOp} {a b : ByteArray} (t : TypeId) (x y : Operand) (w : World) : (eqGuard op t x y (.string a) (.string b)).run P w = .ok () w := by
  unfold eqGuard
  split <;> simp
def isBoolT (P : Program) (t : TypeId) : Bool := match P.underlying t with | some .bool => true | _ => false
theorem equal_bool {t : TypeId} (h : isBoolT P t = true) (a b : Bool) (w : World) : (Op.equal t (.bool a) (.bool b)).run P w = .ok (a == b) w := by
  unfold isBoolT at h
  split at h
  · rename_i hu
    have : (Op.equalIn (9999 + 1) t (.bool a) (.bool b)).run P w = .ok (a == b) w := by
      unfold Op.equalIn
      simp [run_underlying hu]
    exact this
  · cases h
/-- An operator of two operands. -/
def isSliceT (P : Program) (t : TypeId) : Bool := match P.underlying t with | some (.slice _) => true | _ => false
theorem eqGuard_slice {op : BinOp} {a b : Option Addr} {n n' c c' : Nat} (t : TypeId) (x y : Operand) (w : World) : (eqGuard op t x y (.slice a n c) (.slice b n' c')).run P w = .ok () w := by
  unfold eqGuard
  split <;> simp
theorem equal_slice {t : TypeId} (h : isSliceT P t = true) (a : Option Addr) (n n' c c' : Nat) (w : World) : (Op.equal t (.slice a n c) (.slice none n' c')).run P w = .ok a.isNone w := by
  unfold isSliceT at h
  split at h
  · rename_i hu
    have : (Op.equalIn (9999 + 1) t (.slice a n c) (.slice none n' c')).run P w = .ok a.isNone w := by
      unfold Op.equalIn
      cases a <;> simp [run_underlying hu]
    exact this
  · cases h
def binV (P : Program) (op : BinOp) (t : TypeId) (u v : Value) : Option Value :=
  match u, v with
  | .int k a, .int k' b => binI op k a k' b
  | .bool a, .bool b => match op with
    | .eql => if isBoolT P t then some (.bool (a == b)) else none
    | .neq => if isBoolT P t then some (.bool (!(a == b))) else none
    | _ => none
  | .string a, .string b => match op with
    | .eql => some (.bool (a.toList == b.toList))
    | .neq => some (.bool (!(a.toList == b.toList)))
    | _ => none
  | .slice a _ _, .slice none _ _ => if isSliceT P t then (match op with
    | .eql => some (.bool a.isNone)
    | .neq => some (.bool (!a.isNone))
    | _ => none) else none
  | _, _ => none
theorem binV_run {op : BinOp} {t : TypeId} {u v z : Value} (h : binV P op t u v = some z) (x y : Operand) (w : World) : (do eqGuard op t x y u v; binOp op t u v : Sem Value).run P w = .ok z w := by
  unfold binV at h
  split at h
  · rw [Sem.run_bind, eqGuard_int]
    exact binI_run h t w
  · rw [Sem.run_bind, eqGuard_bool]
    split at h
    · split at h
      · rename_i hb; cases h; simp [binOp, equal_bool hb]
      · cases h
    · split at h
      · rename_i hb; cases h; simp [binOp, equal_bool hb]
      · cases h
    · cases h
  · rw [Sem.run_bind, eqGuard_string]
    split at h
    · cases h; rfl
    · cases h; rfl
    · cases h
  · rw [Sem.run_bind, eqGuard_slice]
    split at h
    · rename_i hs
      split at h
      · cases h; simp [binOp, equal_slice hs]
      · cases h; simp [binOp, equal_slice hs]
      · cases h
    · cases h
  · cases h
def unV (op : UnOp) (u : Value) : Option Value :=
  match op, u with
  | .not, .bool b => some (.bool (!b))
  | .neg, .int k n => some (.int k (k.wrap (0 - n)))
  | _, _ => none
theorem unV_run {op : UnOp} {u z : Value} (h : unV op u = some z) (w : World) : (Op.unary op u).run P w = .ok z w := by
  unfold unV at h
  split at h <;> cases h <;> simp [Op.unary, Op.intArith]
def intKO (P : Program) (t : TypeId) : Option IntKind := match P.underlying t with | some (.int k) => some k | _ => none
theorem intKO_run {src dst : TypeId} {k k' : IntKind} {n : Int} (h1 : intKO P src = some k) (h2 : intKO P dst = some k') (j : IntKind) (w : World) : (convert src dst (.int j n)).run P w = .ok (.int k' (k'.wrap n)) w := by
  unfold intKO at h1 h2
  split at h1
  · split at h2
    · rename_i a ha _ b hb
      cases h1; cases h2
      simp [convert, run_underlying ha, run_underlying hb, Conv.intToInt]
    · cases h2
  · cases h1
end
end Go.Proofs.Ytfpcailbobjfnaa
