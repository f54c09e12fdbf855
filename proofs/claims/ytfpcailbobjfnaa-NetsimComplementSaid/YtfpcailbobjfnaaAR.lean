/- Of no program: lists kept as data in rows, and what simp needs of them. -/
import Derived.Test.YtfpcailbobjfnaaAQ
set_option linter.unusedVariables false
set_option linter.unusedSimpArgs false
namespace Go.Proofs.Ytfpcailbobjfnaa
open Go Go.RowKit
/-! ### Data of numbers and bools, and lists of them -/
def iD (n : Int) : D := .val (.int .i64 n)
def bD (n : Int) : D := .val (.int .u8 n)
def uD (n : Int) : D := .val (.int .u64 n)
def oD (b : Bool) : D := .val (.bool b)
def intsD (l : List Int) : D := .fs (l.map iD) l.length
def bytesD (l : List Int) : D := .fs (l.map bD) l.length
def boolsD (l : List Bool) : D := .fs (l.map oD) l.length
def intssD (l : List (List Int)) : D := .fs (l.map intsD) l.length
def bytessD (l : List (List Int)) : D := .fs (l.map bytesD) l.length
def Bytes (l : List Int) : Prop := ∀ x ∈ l, 0 ≤ x ∧ x < 256
/-- What a slice of one-cell elements may be long, and a slice of slices. -/
theorem fix_i (n : Int) : (iD n).fix = iD n := rfl
theorem fix_b (n : Int) : (bD n).fix = bD n := rfl
theorem fix_o (b : Bool) : (oD b).fix = oD b := rfl
theorem fix_fs (cs : List D) (n : Nat) : (D.fs cs n).fix = .fs cs n := rfl
theorem fix_ints (l : List Int) : (intsD l).fix = intsD l := rfl
theorem fix_bools (l : List Bool) : (boolsD l).fix = boolsD l := rfl
theorem fix_map {α : Type} {f : α → D} (h : ∀ a, (f a).fix = f a) (l : List α) : (l.map f).map D.fix = l.map f := by
  rw [List.map_map]; exact List.map_congr_left fun a _ => h a
theorem fix_flat {α : Type} {f : α → List D} (h : ∀ a, (f a).map D.fix = f a) (l : List α) : (l.flatMap f).map D.fix = l.flatMap f := by
  induction l with
  | nil => rfl
  | cons a l ih => rw [List.flatMap_cons, List.map_append, h, ih]
theorem fixm_i (l : List Int) : (l.map iD).map D.fix = l.map iD := fix_map fix_i l
theorem fixm_b (l : List Int) : (l.map bD).map D.fix = l.map bD := fix_map fix_b l
theorem fixm_o (l : List Bool) : (l.map oD).map D.fix = l.map oD := fix_map fix_o l
theorem fixm_is (l : List (List Int)) : (l.map intsD).map D.fix = l.map intsD := fix_map fix_ints l
theorem fixm_os (l : List (List Bool)) : (l.map boolsD).map D.fix = l.map boolsD := fix_map fix_bools l
/-! ### Elements -/
def nth {α : Type} [Inhabited α] (l : List α) (k : Nat) : α := l.getD k default
theorem nth_eq {α : Type} [Inhabited α] {l : List α} {k : Nat} (h : k < l.length) : nth l k = l[k] := by simp [nth, h]
theorem nth_get {α : Type} [Inhabited α] {l : List α} {k : Nat} (h : k < l.length) : l[k]? = some (nth l k) := by rw [nth_eq h, List.getElem?_eq_getElem h]
theorem get_map {α β : Type} [Inhabited α] {f : α → β} {l : List α} {k : Nat} (h : k < l.length) : (l.map f)[k]? = some (f (nth l k)) := by rw [List.getElem?_map, nth_get h]; rfl
theorem nth_mem {α : Type} [Inhabited α] {l : List α} {k : Nat} (h : k < l.length) : nth l k ∈ l := by rw [nth_eq h]; exact List.getElem_mem h
theorem take_nth {α : Type} [Inhabited α] {l : List α} {k : Nat} (h : k < l.length) : l.take (k + 1) = l.take k ++ [nth l k] := by rw [nth_eq h, List.take_succ_eq_append_getElem h]
theorem nth_map {α β : Type} [Inhabited α] [Inhabited β] {f : α → β} {l : List α} {k : Nat} (h : k < l.length) : nth (l.map f) k = f (nth l k) := by rw [nth_eq h, nth_eq (by simpa using h)]; simp
theorem nth_range {n k : Nat} (h : k < n) : nth (List.range n) k = k := by rw [nth_eq (by simpa using h)]; simp
theorem nth_map_range {β : Type} [Inhabited β] {f : Nat → β} {n k : Nat} (h : k < n) : nth ((List.range n).map f) k = f k := by rw [nth_map (by simpa using h), nth_range h]
theorem nth_append_left {α : Type} [Inhabited α] {l m : List α} {k : Nat} (h : k < l.length) : nth (l ++ m) k = nth l k := by rw [nth_eq h, nth_eq (by simp; omega)]; simp [h]
theorem nth_append_right {α : Type} [Inhabited α] {l m : List α} {k : Nat} (h : l.length ≤ k) : nth (l ++ m) k = nth m (k - l.length) := by unfold nth; simp [List.getD_eq_getElem?_getD, List.getElem?_append_right h]
theorem nth_append_end {α : Type} [Inhabited α] {l : List α} {x : α} : nth (l ++ [x]) l.length = x := by rw [nth_append_right (Nat.le_refl _)]; simp [nth]
theorem nth_set_eq {α : Type} [Inhabited α] {l : List α} {k : Nat} {x : α} (h : k < l.length) : nth (l.set k x) k = x := by rw [nth_eq (by simpa using h)]; simp
theorem nth_set_ne {α : Type} [Inhabited α] {l : List α} {k j : Nat} {x : α} (h : k ≠ j) : nth (l.set k x) j = nth l j := by unfold nth; simp [List.getD_eq_getElem?_getD, List.getElem?_set_ne h]
theorem ext_nth {α : Type} [Inhabited α] {a b : List α} (hl : a.length = b.length) (h : ∀ k, k < a.length → nth a k = nth b k) : a = b :=
  List.ext_getElem hl fun k h1 h2 => by have := h k h1; rwa [nth_eq h1, nth_eq h2] at this
theorem take_eq_step {α : Type} [Inhabited α] {a b : List α} {k : Nat} (ha : k < a.length) (hb : k < b.length) (h : a.take k = b.take k) (he : nth a k = nth b k) : a.take (k + 1) = b.take (k + 1) := by
  rw [take_nth ha, take_nth hb, h, he]
/-! ### Rows of data -/
def avs (l : List D) : List AV := l.map .d
section
variable {l m : List D} {x : D} {i k : Nat}
theorem map_d : List.map AV.d l = avs l := rfl
theorem avs_nil : avs [] = [] := rfl
theorem avs_cons : avs (x :: l) = .d x :: avs l := rfl
theorem avs_len : (avs l).length = l.length := List.length_map _
theorem avs_get : (avs l)[i]? = (l[i]?).map AV.d := List.getElem?_map
theorem avs_app : avs l ++ avs m = avs (l ++ m) := (List.map_append ..).symm
theorem avs_app1 {r : List AV} : avs l ++ (.d x :: r) = avs (l ++ [x]) ++ r := by simp [avs]
theorem avs_set : (avs l).set i (.d x) = avs (l.set i x) := by simp [avs, List.map_set]
theorem avs_drop : (avs l).drop i = avs (l.drop i) := by simp [avs, List.map_drop]
theorem avs_take : (avs l).take i = avs (l.take i) := by simp [avs, List.map_take]
theorem gcVs_avs {keep : List Nat} : gcVs keep (avs l) = avs l := gcVs_d keep l
theorem fzVs_avs {id : Nat} {r : List D} : fzVs id r (avs l) = avs l := by
  rw [fzVs_eq, avs, List.map_map]; exact List.map_congr_left fun y _ => by simp [fzV]
theorem takeD_avs : takeD (avs l) i k = (takeD l i k).map avs := takeD_map _ _ _ _
theorem takeD_zero {α : Type} {l : List α} : takeD l 0 0 = some [] := by simp [takeD]
theorem takeD_cs {α : Type} {y : α} {l : List α} : takeD (y :: l) 0 (k + 1) = (takeD l 0 k).map (y :: ·) := by
  unfold takeD
  by_cases h : k ≤ l.length
  · rw [if_pos (by simpa using h), if_pos (by simpa using h)]; simp
  · rw [if_neg (by simpa using h), if_neg (by simpa using h)]; rfl
theorem takeD_cd {α : Type} {y : α} {l : List α} : takeD (y :: l) (i + 1) k = takeD l i k := by
  unfold takeD
  by_cases h : i + k ≤ l.length
  · rw [if_pos (by simp; omega), if_pos h]; simp
  · rw [if_neg (by simp; omega), if_neg h]
theorem takeD_all {α : Type} {l : List α} (h : l.length = k) : takeD l 0 k = some l := by
  unfold takeD
  rw [if_pos (by omega)]
  simp [← h]
theorem takeD_part {α : Type} {l : List α} (h : i + k ≤ l.length) : takeD l i k = some ((l.drop i).take k) := by
  unfold takeD
  rw [if_pos h]
theorem deepL_avs {look : Nat → Option (List AV)} {n : Nat} : deepL look (n + 2) (avs l) = some (l.map D.fix) := by
  rw [show deepL look (n + 2) (avs l) = (avs l).mapM (deep look (n + 1)) from rfl]
  induction l with
  | nil => rfl
  | cons y l ih => rw [avs_cons, List.mapM_cons, ih]; rfl
theorem deepL_nil {look : Nat → Option (List AV)} {n : Nat} : deepL look (n + 1) [] = some [] := rfl
theorem deepL_cons {look : Nat → Option (List AV)} {n : Nat} {y : AV} {r : List AV} : deepL look (n + 1) (y :: r) = (deep look n y).bind fun a => (deepL look (n + 1) r).map (a :: ·) := by
  rw [show deepL look (n + 1) (y :: r) = (y :: r).mapM (deep look n) from rfl, List.mapM_cons]
  show _ = (deep look n y).bind fun a => (r.mapM (deep look n)).map (a :: ·)
  cases deep look n y <;> cases r.mapM (deep look n) <;> rfl
theorem deep_d {look : Nat → Option (List AV)} {n : Nat} : deep look (n + 1) (.d x) = some x.fix := rfl
theorem deep_os {look : Nat → Option (List AV)} {n k id off m : Nat} : deep look (n + 1) (.os k id off m) = (look id).bind fun cs => (takeD cs off (m * k)).bind fun r => (deepL look n r).map (D.fs · m) := by
  show (match look id with | some cs => _ | none => none) = _
  cases look id with
  | none => rfl
  | some cs =>
    show (match takeD cs off (m * k) with | some l => _ | none => none) = (takeD cs off (m * k)).bind _
    cases takeD cs off (m * k) <;> rfl
theorem deep_op {look : Nat → Option (List AV)} {n id i : Nat} : deep look (n + 1) (.op id i) = (look id).bind fun cs => (deepL look n cs).map (D.fp · i) := by
  show (match look id with | some cs => _ | none => none) = _
  cases look id <;> rfl
theorem deep_clo {look : Nat → Option (List AV)} {n : Nat} {fn : Fn} {fi ca : List AV} : deep look (n + 1) (.clo fn fi ca) = (deepL look n fi).bind fun a => (deepL look n ca).map fun b => .clo fn a b := by
  show (match deepL look n fi, deepL look n ca with | some a, some b => _ | _, _ => none) = _
  cases deepL look n fi <;> cases deepL look n ca <;> rfl
def cellsOf : AObj → Option (List AV)
  | .cells cs => some cs
  | _ => none
theorem cellsOf_c {cs : List AV} : cellsOf (.cells cs) = some cs := rfl
theorem lookH_eq {H : AHeap} {N id : Nat} (h : id < N) : lookH H N id = (H[id]?).bind cellsOf := by
  unfold lookH
  rw [if_pos h]
  cases H[id]? with
  | none => rfl
  | some o => cases o <;> rfl
theorem deep_agg {look : Nat → Option (List AV)} {n : Nat} {cs : List AV} : deep look (n + 1) (.agg cs) = (deepL look n cs).map D.agg := rfl
theorem newL_avs {look : Nat → Option (List AV)} {n : Nat} (h : ∀ y ∈ l, y.plain = true) : newL look (n + 2) (avs l) = some (l.map D.fix) := by
  rw [show newL look (n + 2) (avs l) = (avs l).mapM (newD look (n + 1)) from rfl]
  induction l with
  | nil => rfl
  | cons y l ih =>
    rw [avs_cons, List.mapM_cons, ih fun z hz => h z (List.mem_cons_of_mem _ hz), show newD look (n + 1) (.d y) = if y.plain then some y.fix else none from rfl, if_pos (h y (List.mem_cons_self ..))]; rfl
end
/-- One row of a list of structs. -/
theorem flat_len {α : Type} {f : α → List D} {w : Nat} (hw : ∀ a, (f a).length = w) (l : List α) : (l.flatMap f).length = l.length * w := by
  induction l with
  | nil => simp
  | cons a l ih => rw [List.flatMap_cons, List.length_append, hw, ih, List.length_cons, Nat.add_mul]; omega
theorem flat_drop {α : Type} {f : α → List D} {w : Nat} (hw : ∀ a, (f a).length = w) : ∀ (l : List α) (k : Nat), (l.flatMap f).drop (k * w) = (l.drop k).flatMap f
  | l, 0 => by simp
  | [], k + 1 => by simp
  | a :: l, k + 1 => by
    rw [List.flatMap_cons, Nat.add_mul, Nat.one_mul, Nat.add_comm, List.drop_append, hw, List.drop_of_length_le (by rw [hw]; omega), List.nil_append, Nat.add_sub_cancel_left, flat_drop hw l k, List.drop_succ_cons]
theorem flat_take {α : Type} {f : α → List D} {w : Nat} (hw : ∀ a, (f a).length = w) : ∀ (l : List α) (k : Nat), (l.flatMap f).take (k * w) = (l.take k).flatMap f
  | l, 0 => by simp
  | [], k + 1 => by simp
  | a :: l, k + 1 => by
    rw [List.flatMap_cons, Nat.add_mul, Nat.one_mul, Nat.add_comm, List.take_append, hw, List.take_of_length_le (by rw [hw]; omega), Nat.add_sub_cancel_left, flat_take hw l k, List.take_succ_cons, List.flatMap_cons]
theorem flat_get {α : Type} [Inhabited α] {f : α → List D} {w : Nat} (hw : ∀ a, (f a).length = w) {l : List α} {k j : Nat} (hk : k < l.length) (hj : j < w) : (l.flatMap f)[k * w + j]? = (f (nth l k))[j]? := by
  rw [← List.getElem?_drop, flat_drop hw, List.drop_eq_getElem_cons hk, List.flatMap_cons, List.getElem?_append_left (by rw [hw]; exact hj), nth_eq hk]
theorem flat_row {α : Type} [Inhabited α] {f : α → List D} {w : Nat} (hw : ∀ a, (f a).length = w) {l : List α} {k : Nat} (hk : k < l.length) : takeD (l.flatMap f) (k * w) w = some (f (nth l k)) := by
  rw [takeD_part (by rw [flat_len hw]; have := Nat.mul_le_mul_right w (Nat.succ_le_of_lt hk); rw [Nat.succ_mul] at this; omega), flat_drop hw, List.drop_eq_getElem_cons hk, List.flatMap_cons, List.take_append, hw, List.take_of_length_le (by rw [hw]; exact Nat.le_refl _), nth_eq hk]; simp
theorem flat_all {α : Type} {f : α → List D} {w : Nat} (hw : ∀ a, (f a).length = w) {l : List α} {k : Nat} (h : l.length = k) : takeD (l.flatMap f) 0 (k * w) = some (l.flatMap f) := takeD_all (by rw [flat_len hw, h])
/-! ### Numbers -/
section
variable {P : Program} {t : TypeId} {a b : Int}
theorem w_i64 (h1 : -9223372036854775808 ≤ a) (h2 : a < 9223372036854775808) : IntKind.i64.wrap a = a := i64w h1 h2
theorem w_u64 (h1 : 0 ≤ a) (h2 : a < 18446744073709551616) : IntKind.u64.wrap a = a := by
  simp [IntKind.wrap, IntKind.bits, IntKind.signed]; omega
theorem w_u8 (h1 : 0 ≤ a) (h2 : a < 256) : IntKind.u8.wrap a = a := by
  simp [IntKind.wrap, IntKind.bits, IntKind.signed]; omega
theorem v_addw : binV P .add t (.int .i64 a) (.int .i64 b) = some (.int .i64 (IntKind.i64.wrap (a + b))) := by simp [binV, binI]
theorem v_quo8 (h1 : 0 ≤ a) (h2 : 0 < b) (h3 : a < 256) : binV P .quo t (.int .u8 a) (.int .u8 b) = some (.int .u8 (a / b)) := by
  have h4 : a / b ≤ a := Int.ediv_le_self _ h1
  have h5 : 0 ≤ a / b := Int.ediv_nonneg h1 (by omega)
  simp [binV, binI, show ¬ b = 0 by omega, Int.tdiv_eq_ediv_of_nonneg h1, IntKind.wrap, IntKind.bits, IntKind.signed]
  omega
end
theorem fresh_le {b : Bool} {N id : Nat} (h : N ≤ id) : ((if b = true then N else 0) ≤ id) = True := eq_true (by split <;> omega)
theorem fresh_no {b : Bool} {N id : Nat} (h : b = false) : ((if b = true then N else 0) ≤ id) = True := eq_true (by rw [h]; simp)
theorem killAll_nil {H : AHeap} : killAll [] H = H := rfl
theorem killAll_cons {p : Nat × Nat} {l : List (Nat × Nat)} {H : AHeap} : killAll (p :: l) H = killAll l (H.set p.2 .dead) := rfl
theorem baseOk_old {N id k off n : Nat} {al : List Nat} (h : id < N) : baseOk N al (.os k id off n) = true := by simp [baseOk, h]
theorem baseOk_dd {N : Nat} {al : List Nat} {x : D} : baseOk N al (.d x) = true := rfl
theorem reps_1 {n : Nat} {z : D} : reps n [z] = avs (List.replicate n z) := by
  unfold reps avs
  induction n with
  | zero => rfl
  | succ n ih => simp_all [List.replicate_succ]
theorem replicate_d {n : Nat} {z : D} : List.replicate n (AV.d z) = avs (List.replicate n z) := by simp [avs]
theorem fill_step {α : Type} [Inhabited α] {l : List α} {k : Nat} (h : k < l.length) (z : α) : (l.take k ++ List.replicate (l.length - k) z).set k (nth l k) = l.take (k + 1) ++ List.replicate (l.length - (k + 1)) z := by
  rw [take_nth h, show l.length - k = (l.length - (k + 1)) + 1 by omega, List.replicate_succ, List.set_append_right _ _ (by simp; omega), List.length_take, Nat.min_eq_left (by omega), Nat.sub_self, List.set_cons_zero]
  simp
theorem map_set {α β : Type} {f : α → β} {l : List α} {k : Nat} {x : α} : (l.map f).set k (f x) = (l.set k x).map f := by rw [List.map_set]
theorem map_set_o {l : List Bool} {k : Nat} {x : Bool} : (l.map oD).set k (.val (.bool x)) = (l.set k x).map oD := by rw [List.map_set]; rfl
theorem map_set_i {l : List Int} {k : Nat} {x : Int} : (l.map iD).set k (.val (.int .i64 x)) = (l.set k x).map iD := by rw [List.map_set]; rfl
theorem map_set_b {l : List Int} {k : Nat} {x : Int} : (l.map bD).set k (.val (.int .u8 x)) = (l.set k x).map bD := by rw [List.map_set]; rfl
theorem eqnil_fs {P : Program} {t : TypeId} {e : TypeId} {cs : List D} {n : Nat} (h : P.underlying t = some (.slice e)) (hn : 0 < n) : binF P .eql t (.d (.fs cs n)) (.d (.val (.slice none 0 0))) = some (.d (.val (.bool false))) := by
  cases n with
  | zero => omega
  | succ n => simp [binF, nilC, nonNilV, h]
theorem eqnil_os {P : Program} {t : TypeId} {e : TypeId} {k id off n : Nat} (h : P.underlying t = some (.slice e)) (hn : 0 < n) : binF P .eql t (.os k id off n) (.d (.val (.slice none 0 0))) = some (.d (.val (.bool false))) := by
  cases n with
  | zero => omega
  | succ n => simp [binF, nilC, nonNilV, h]
theorem tf (b : Bool) : b = true ∨ b = false := by cases b <;> simp
section
variable {P : Program} {c : Cx} {code : Code} {fn : Func} {Q : AV → AHeap → Prop} {QQ : Exit → Fr → AHeap → Prop} {τ : Fr} {H : AHeap} {x y z u v : AV}
theorem PostA_ret1 {t : Tmp} (h : fn.results.toList = [.tmp t]) (hq : Q (τ t) H) : PostA P fn Q .ret τ H := by
  show ResA P τ H fn.results.toList _
  rw [h]; exact hq
theorem PostA_retc {t : Tmp} {ty : TypeId} (h : fn.results.toList = [.cell t ty]) (hq : oK (loadF P H.length H ty (τ t)) (tg fun x => Q x H)) : PostA P fn Q .ret τ H := by
  obtain ⟨x, h1, h2⟩ := hq
  show ResA P τ H fn.results.toList _
  rw [h]; exact ⟨x, loadF_ok h1, h2⟩
theorem awp_sv1 (h : AWp P c code QQ (frL [(0, x)]) H) : AWp P c code QQ (startV [x]) H := awp_less (less_cons (less_nil _) rfl) h
theorem awp_sv2 (h : AWp P c code QQ (frL [(0, x), (1, y)]) H) : AWp P c code QQ (startV [x, y]) H := awp_less (less_cons (less_cons (less_nil _) rfl) rfl) h
theorem awp_sv3 (h : AWp P c code QQ (frL [(0, x), (1, y), (2, z)]) H) : AWp P c code QQ (startV [x, y, z]) H := awp_less (less_cons (less_cons (less_cons (less_nil _) rfl) rfl) rfl) h
theorem awp_sv4 (h : AWp P c code QQ (frL [(0, x), (1, y), (2, z), (3, u)]) H) : AWp P c code QQ (startV [x, y, z, u]) H := awp_less (less_cons (less_cons (less_cons (less_cons (less_nil _) rfl) rfl) rfl) rfl) h
theorem awp_sv5 (h : AWp P c code QQ (frL [(0, x), (1, y), (2, z), (3, u), (4, v)]) H) : AWp P c code QQ (startV [x, y, z, u, v]) H := awp_less (less_cons (less_cons (less_cons (less_cons (less_cons (less_nil _) rfl) rfl) rfl) rfl) rfl) h
end
/-- Where the heaps are equal. -/
theorem Rt.heap {τ : Fr} {H H' : AHeap} (h : H = H') : Rt τ H τ H' := h ▸ Rt.refl _ _
theorem Rt.end {τ τ' : Fr} {H H' : AHeap} (h1 : Less τ τ') (h2 : H = H') : Rt τ H τ' H' := (Rt.less h1).trans (Rt.heap h2)
/-- A nil slice in a slot becomes an empty row. -/
theorem Rt.nil {τ : Fr} {H : AHeap} (t k : Nat) (h : τ t = .d (.val (.slice none 0 0))) : Rt τ H (τ.put (some t) (.os k H.length 0 0)) (H ++ [.cells []]) :=
  Rt.new.trans (Rt.put t (by rw [h]; exact Imp.nil _ _ _))
/-- A nil slice in a cell becomes an empty row. -/
theorem Rt.nilc {τ : Fr} {H : AHeap} (id j k : Nat) {cs : List AV} (hid : H[id]? = some (.cells cs)) (hj : cs[j]? = some (.d (.val (.slice none 0 0)))) : Rt τ H τ (List.set (H ++ [AObj.cells []]) id (.cells (cs.set j (.os k H.length 0 0)))) :=
  Rt.new.trans (Rt.cell (by rw [List.getElem?_append_left (List.getElem?_eq_some_iff.1 hid).1]; exact hid) hj (Imp.nil _ _ _))
theorem Rt.slot {τ : Fr} {H : AHeap} (t : Nat) {x : AV} (h : τ t = x) : Rt τ H (τ.put (some t) x) H := Rt.put t (by rw [h]; exact fun _ _ _ _ h => h)
theorem fzV_os {id k off n : Nat} {l m : List D} (h : takeD l off (n * k) = some m) : fzV id l (.os k id off n) = .d (.fs m n) := by rw [fzV, if_pos rfl, h]
theorem Rt.fix {τ : Fr} {H : AHeap} (t : Nat) (h : τ t = .d (.val (.slice none 0 0))) : Rt τ H (τ.put (some t) (.d (.fs [] 0))) H := Rt.put t (by rw [h]; exact Imp.fixnil)
theorem Rt.fixc {τ : Fr} {H : AHeap} (id j : Nat) {cs : List AV} (hid : H[id]? = some (.cells cs)) (hj : cs[j]? = some (.d (.val (.slice none 0 0)))) : Rt τ H τ (List.set H id (.cells (cs.set j (.d (.fs [] 0))))) := Rt.cell hid hj Imp.fixnil
end Go.Proofs.Ytfpcailbobjfnaa
