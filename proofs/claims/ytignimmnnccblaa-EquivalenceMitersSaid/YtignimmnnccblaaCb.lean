/- The manager's tables in memory; keys of its maps. -/
import Derived.Test.YtignimmnnccblaaBa
import Derived.Test.YtignimmnnccblaaTy
import Derived.Test.YtignimmnnccblaaQr
set_option linter.unusedVariables false
set_option linter.unusedSimpArgs false
namespace Go.Proofs.Ytignimmnnccblaa
open Go Go.RowKit
theorem jut {n : Int} (h : I64 n) : (Lit.int .i64 n).wf = true := by
 obtain ⟨h1, h2⟩ := h
 simp [Lit.wf]; exact ⟨h1, by omega⟩
section
variable {P : Program}
theorem zo1 {e : TypeId} (hu : P.underlying e = some (.int .i64)) {n : Int} (hn : I64 n) (d : Nat) : P.keyLits (d + 1) e [.int .i64 n] = some [.int .i64 n] := by
 simp [Program.keyLits, hu, jut hn]
theorem jdv {n : Nat} (h : Nat.ble 1 n = true) : ∃ d, n = d + 1 := ⟨n - 1, by have := Nat.le_of_ble_eq_true h; omega⟩
end
theorem jqo {a b c : Int} (ha : I64 a) (hb : I64 b) (hc : I64 c) : zpz Try.prog 127 (.agg #[.int .i64 a, .int .i64 b, .int .i64 c]) := by
 refine ⟨rfl, fun kt et hm => ?_⟩
 have h0 : zg0 Try.prog 127 = some (125, 3) := by kernel_rfl
 rw [h0] at hm; cases hm
 obtain ⟨d, hd⟩ : ∃ d, Try.prog.types.size = d + 1 := jdv (by kernel_rfl)
 have h1 : Try.prog.keyType 125 = true := by kernel_rfl
 have h2 : Try.prog.cellsOf 125 = 3 := by kernel_rfl
 have h3 : Try.prog.cellsOf 3 = 1 := by kernel_rfl
 unfold keyOf
 rw [Try.underlying125]
 have h4 : Value.formed Try.prog 125 (.agg #[.int .i64 a, .int .i64 b, .int .i64 c]) = true := by
  unfold Value.formed
  simp only [Try.underlying125, h2]; rfl
 simp only [h1, h4, Bool.and_self, if_true, hd]
 unfold Program.keyLits
 simp only [Try.underlying125, h2, h3, Value.cells, List.mapM_cons, List.mapM_nil, List.drop_zero, List.drop_succ_cons, List.take_succ_cons, List.take_zero, zo1 Try.underlying3 ha, zo1 Try.underlying3 hb, zo1 Try.underlying3 hc]
 rw [if_pos ⟨rfl, by first | rfl | decide | simp⟩]; rfl
theorem jqp {a b c : Int} (ha : I64 a) (hb : I64 b) (hc : I64 c) : zpz Try.prog 128 (.agg #[.int .i64 a, .int .i64 b, .int .i64 c]) := by
 refine ⟨rfl, fun kt et hm => ?_⟩
 have h0 : zg0 Try.prog 128 = some (132, 3) := by kernel_rfl
 rw [h0] at hm; cases hm
 obtain ⟨d, hd⟩ : ∃ d, Try.prog.types.size = d + 1 := jdv (by kernel_rfl)
 have h1 : Try.prog.keyType 132 = true := by kernel_rfl
 have h2 : Try.prog.cellsOf 132 = 3 := by kernel_rfl
 have h3 : Try.prog.cellsOf 3 = 1 := by kernel_rfl
 unfold keyOf
 rw [Try.underlying132]
 have h4 : Value.formed Try.prog 132 (.agg #[.int .i64 a, .int .i64 b, .int .i64 c]) = true := by
  unfold Value.formed
  simp only [Try.underlying132, h2]; rfl
 simp only [h1, h4, Bool.and_self, if_true, hd]
 unfold Program.keyLits
 have h5 : List.range 3 = [0, 1, 2] := rfl
 simp only [Try.underlying132, h2, h3, h5, Value.cells, List.mapM_cons, List.mapM_nil, Nat.zero_mul, Nat.one_mul, Nat.mul_one, List.drop_zero, List.drop_succ_cons, List.take_succ_cons, List.take_zero, zo1 Try.underlying3 ha, zo1 Try.underlying3 hb, zo1 Try.underlying3 hc]
 rfl
theorem js0 {t et : TypeId} (h0 : zg0 Try.prog t = some (3, et)) {a : Int} (ha : I64 a) : zpz Try.prog t (.int .i64 a) := by
 refine ⟨rfl, fun kt et' hm => ?_⟩
 rw [h0] at hm; cases hm
 exact zki Try.underlying3 ha
theorem jjp {n : Nat} (h : n ≤ 4000000000) : I64 (n : Int) := ⟨by omega, by omega⟩
def ndC (n : Nd) : List D := [iD n.v, iD n.lo, iD n.hi]
def vi (n : Nat) : Value := .int .i64 n
def k3V (a b c : Nat) : Value := .agg #[vi a, vi b, vi c]
def ndV (n : Nd) : Value := k3V n.v n.lo n.hi
theorem jk4 (n : Nd) : (ndC n).length = 3 := rfl
section
variable {l : List Nd} {k : Nat}
theorem zxu (h : k < l.length) : zcm (l.flatMap ndC) (k * 3) 3 = some (ndC (nth l k)) := zhf jk4 h
theorem juu (h : k < l.length) : (l.flatMap ndC)[k * 3]? = some (iD (nth l k).v) := (zi6 (j := 0) jk4 h (by omega)).trans rfl
theorem zad : (l.flatMap ndC).length = l.length * 3 := zeu jk4 l
theorem ziu (l : List Nd) : (l.flatMap ndC).map D.fix = l.flatMap ndC := zmg (fun _ => rfl) l
end
theorem znj {a b : Nat} (h : vi a = vi b) : a = b := by
 unfold vi at h; injection h with _ h; omega
theorem jjq {a b c a' b' c' : Nat} (h : k3V a b c = k3V a' b' c') : a = a' ∧ b = b' ∧ c = c' := by
 unfold k3V at h
 injection h with h
 have h' := congrArg Array.toList h
 simp only [List.cons.injEq, and_true] at h'
 exact ⟨znj h'.1, znj h'.2.1, znj h'.2.2⟩
theorem jdw {m n : Nd} (h : ndV m = ndV n) : m = n := by
 obtain ⟨h1, h2, h3⟩ := jjq h
 cases m; cases n; simp_all
theorem jqq {a b c : Nat} : zji (k3V a b c) = true := rfl
abbrev tU : TypeId := 127
abbrev tM : TypeId := 128
def zel : Nat := 100000000
structure UOk (ts : List T) (μ : Mp) : Prop where
 ok : OkM Try.prog tU μ
 get : ∀ t ∈ ts, zg5 (ndV (zjr ts t)) μ = some (vi (num ts t))
 inv : ∀ k u, zg5 k μ = some u → ∃ t ∈ ts, k = ndV (zjr ts t)
structure MOk (ts : List T) (μ : Mp) : Prop where
 ok : OkM Try.prog tM μ
 inv : ∀ k u, zg5 k μ = some u → ∃ f g h t, f ∈ zbq ts ∧ g ∈ zbq ts ∧ h ∈ zbq ts ∧ t ∈ zbq ts ∧ k = k3V (num ts f) (num ts g) (num ts h) ∧ u = vi (num ts t) ∧ Ite f g h t
structure MS (V : Nat) (ts : List T) (μu μm : Mp) : Prop where
 row : RowOk V ts
 u : UOk ts μu
 m : MOk ts μm
 len : ts.length ≤ zel
 V0 : V ≤ 900
theorem UOk.none {V : Nat} {ts : List T} {μ : Mp} (h : UOk ts μ) (hr : RowOk V ts) {t : T} (ht : t.lf = false) (hn : t ∉ zbq ts) (hl : t.l ∈ zbq ts) (hh : t.h ∈ zbq ts) : zg5 (ndV (zjr ts t)) μ = none := by
 cases hg : zg5 (ndV (zjr ts t)) μ with
 | none => rfl
 | some u =>
  obtain ⟨s, hs, he⟩ := h.inv _ _ hg
  have := ji3 hr hs ht hl hh (jdw he).symm
  exact absurd (List.mem_cons_of_mem _ (List.mem_cons_of_mem _ (this ▸ hs))) hn
theorem znk {ts : List T} (h : ts.length ≤ zel) {t : T} (ht : t ∈ zbq ts) : num ts t ≤ 4000000000 := by
 have := zee ht; unfold zel at h; omega
theorem T.Ok.v_le {V k : Nat} {t : T} (h : t.Ok V k) (hV : V ≤ 900) : t.v ≤ 1000 := by
 cases t with
 | leaf b => exact Nat.le_refl _
 | node v l r => have := h.2.1; show v ≤ 1000; omega
theorem MS.keyU {V : Nat} {ts : List T} {μu μm : Mp} (h : MS V ts μu μm) {v : Nat} (hv : v ≤ 1000) {lo hi : T} (hl : lo ∈ zbq ts) (hh : hi ∈ zbq ts) : zpz Try.prog tU (ndV ⟨v, num ts lo, num ts hi⟩) :=
 jqo (jjp (n := v) (by omega)) (jjp (znk h.len hl)) (jjp (znk h.len hh))
theorem MS.keyM {V : Nat} {ts : List T} {μu μm : Mp} (h : MS V ts μu μm) {f g t : T} (hf : f ∈ zbq ts) (hg : g ∈ zbq ts) (ht : t ∈ zbq ts) : zpz Try.prog tM (k3V (num ts f) (num ts g) (num ts t)) :=
 jqp (jjp (znk h.len hf)) (jjp (znk h.len hg)) (jjp (znk h.len ht))
theorem MS.add {V : Nat} {ts : List T} {μu μm : Mp} (h : MS V ts μu μm) {t : T} (hk : t.Ok V 0) (ht : t.lf = false) (hn : t ∉ zbq ts) (hl : t.l ∈ zbq ts) (hh : t.h ∈ zbq ts) (hlen : ts.length < zel) :
  MS V (ts ++ [t]) (znz (ndV (zjr ts t)) (vi (2 + ts.length)) μu) μm := by
 have hp : ts <+: ts ++ [t] := List.prefix_append _ _
 have hkey : zpz Try.prog tU (ndV (zjr ts t)) := h.keyU (v := t.v) (hk.v_le h.V0) hl hh
 refine ⟨h.row.snoc hk hn hl hh, ⟨h.u.ok.put hkey, fun s hs => ?_, fun k u hg => ?_⟩, ⟨h.m.ok, fun k u hg => ?_⟩, by simp; omega, h.V0⟩
 ·classical
  rw [zge hkey.1 (by rfl)]
  rcases List.mem_append.1 hs with hs | hs
  ·have hsf : s ∈ zbq ts := List.mem_cons_of_mem _ (List.mem_cons_of_mem _ hs)
   rw [zwo h.row hp hsf, zdr hp hsf, if_neg fun e => hn (ji3 h.row hs ht hl hh (jdw e) ▸ hsf)]
   exact h.u.get s hs
  ·rw [List.mem_singleton.1 hs, zp2 hn]
   unfold zjr
   rw [zef hl, zef hh, if_pos rfl]
 ·classical
  by_cases hk' : zji k = true
  ·rw [zge hkey.1 hk'] at hg
   split at hg
   ·rename_i e
    refine ⟨t, by simp, ?_⟩
    rw [e]; unfold zjr
    rw [zef hl, zef hh]
   ·obtain ⟨s, hs, rfl⟩ := h.u.inv k u hg
    exact ⟨s, List.mem_append_left _ hs, by rw [zwo h.row hp (List.mem_cons_of_mem _ (List.mem_cons_of_mem _ hs))]⟩
  ·obtain ⟨n, hm⟩ := zkj hg
   exact absurd ((h.u.ok.put hkey).keys _ hm).1 hk'
 ·obtain ⟨f, g, q, r, a1, a2, a3, a4, rfl, rfl, a5⟩ := h.m.inv k u hg
  exact ⟨f, g, q, r, zg7 a1, zg7 a2, zg7 a3, zg7 a4, by rw [zef a1, zef a2, zef a3], by rw [zef a4], a5⟩
theorem MS.memo {V : Nat} {ts : List T} {μu μm : Mp} (h : MS V ts μu μm) {f g q t : T} (hf : f ∈ zbq ts) (hg : g ∈ zbq ts) (hq : q ∈ zbq ts) (ht : t ∈ zbq ts) (hi : Ite f g q t) :
  MS V ts μu (znz (k3V (num ts f) (num ts g) (num ts q)) (vi (num ts t)) μm) := by
 refine ⟨h.row, h.u, ⟨h.m.ok.put (h.keyM hf hg hq), fun k u hk => ?_⟩, h.len, h.V0⟩
 classical
 by_cases hk' : zji k = true
 ·rw [zge (h.keyM hf hg hq).1 hk'] at hk
  split at hk
  ·rename_i e
   cases hk
   exact ⟨f, g, q, t, hf, hg, hq, ht, e, rfl, hi⟩
  ·exact h.m.inv k u hk
 ·obtain ⟨n, hm⟩ := zkj hk
  exact absurd ((h.m.ok.put (h.keyM hf hg hq)).keys _ hm).1 hk'
def zbh (n : Nat) : List AV := [.os 3 3 0 n, .om 1, .om 2]
def zbe (ts : List T) (μu μm : Mp) : zar := [.cells (zbh (2 + ts.length)), mO μu, mO μm, .cells (avs ((jco ts).flatMap ndC))]
def zc0 (ts : List T) (μu μm : Mp) : D := .fp [.fs ((jco ts).flatMap ndC) (2 + ts.length), mD μu, mD μm] 0
theorem mtU : mtB Try.prog KT tU = some (.int .i64 0) := by kernel_rfl
theorem mtM : mtB Try.prog KT tM = some (.int .i64 0) := by kernel_rfl
end Go.Proofs.Ytignimmnnccblaa

/- The manager's part and node. -/
set_option linter.unusedVariables false
set_option linter.unusedSimpArgs false
set_option maxRecDepth 100000
set_option maxHeartbeats 4000000
namespace Go.Proofs.Ytignimmnnccblaa
open Go Go.RowKit
theorem jgf : (((((type_of% @zgq) ∧ (type_of% @zgr)) ∧ ((type_of% @zjv) ∧ ((type_of% @zjw) ∧ (type_of% @zgf)))) ∧ (((type_of% @zgg) ∧ (type_of% @zgh)) ∧ ((type_of% @zgk) ∧ ((type_of% @zgl) ∧ (type_of% @zhv))))) ∧ ((((type_of% @zhu) ∧ (type_of% @zez)) ∧ ((type_of% @ze0) ∧ ((type_of% @zex) ∧ (type_of% @zey)))) ∧ (((type_of% @zfa) ∧ (type_of% @zgo)) ∧ ((type_of% @zgp) ∧ ((type_of% @zgm) ∧ (type_of% @zgn)))))) := ⟨⟨⟨⟨@zgq, @zgr⟩, ⟨@zjv, ⟨@zjw, @zgf⟩⟩⟩, ⟨⟨@zgg, @zgh⟩, ⟨@zgk, ⟨@zgl, @zhv⟩⟩⟩⟩, ⟨⟨⟨@zhu, @zez⟩, ⟨@ze0, ⟨@zex, @zey⟩⟩⟩, ⟨⟨@zfa, @zgo⟩, ⟨@zgp, ⟨@zgm, @zgn⟩⟩⟩⟩⟩
theorem zo2 (ts : List T) (μu μm : Mp) (f : T) (hf : f ∈ zbq ts) (hl : ts.length ≤ zel) (v : Nat) (b : Bool) : za9 Try.prog 75 [zc0 ts μu μm, iD (num ts f), iD v, oD b] (.d (iD (num ts (zhj f v b)))) := by
 refine zbc (fn := Try.f75) (by kernel_rfl) Try.func75 rfl (Nat.le_of_ble_eq_true rfl) fun c hc hp => ?_
 refine zbf (τ' := frL [(0, .d (zc0 ts μu μm)), (1, .d (iD (num ts f))), (2, .d (iD v)), (3, .d (oD b))]) (by repeat (first | exact zak _ | refine zah ?_ (by first | rfl | (simp [r_f, zai, zad]; done) | simp [r_f, zai, zad, *]))) ?_
 refine zac hp zaj hc rfl fun K1 hK1 => ?_
 simp -dsimp -implicitDefEqProofs (disch := first | assumption | omega | (simp only [r_z, zai, zad] <;> omega) | decide) only [r_r, ↓reduceIte, Nat.reduceEqDiff, Nat.reduceAdd, D.fix, Int.reduceToNat, Nat.reduceMul, Nat.reduceBNe, Nat.reduceBEq, zc0]
 refine hK1 _ _ ?_
 have hn := zee hf
 unfold zel at hl
 refine zac hp zaj hc rfl fun K2 hK2 => ?_
 simp -dsimp -implicitDefEqProofs (disch := first | assumption | omega | (simp only [r_z, zai, zad] <;> omega) | decide) only [r_r, ↓reduceIte, Nat.reduceEqDiff, Nat.reduceAdd, D.fix, Int.reduceToNat, Nat.reduceMul, Nat.reduceBNe, Nat.reduceBEq, zc0, zxu, jk4, zi7 hf, ndC, zjr, jgf]
 refine hK2 _ _ ?_
 refine zaz ?_
 refine zac hp zaj hc rfl fun K3 hK3 => ?_
 simp -dsimp -implicitDefEqProofs (disch := first | assumption | omega | (simp only [r_z, zai, zad] <;> omega) | decide) only [r_r, ↓reduceIte, Nat.reduceEqDiff, Nat.reduceAdd, D.fix, Int.reduceToNat, Nat.reduceMul, Nat.reduceBNe, Nat.reduceBEq, zc0, jgf]
 refine hK3 _ _ ?_
 refine zaq rfl (fun ht => ?_) (fun ht => ?_)
 ·have hne : f.v ≠ v := by simp at ht; omega
  refine zac hp zaj hc rfl fun K4 hK4 => ?_
  simp -dsimp -implicitDefEqProofs (disch := first | assumption | omega | (simp only [r_z, zai, zad] <;> omega) | decide) only [r_r, ↓reduceIte, Nat.reduceEqDiff, Nat.reduceAdd, D.fix, Int.reduceToNat, Nat.reduceMul, Nat.reduceBNe, Nat.reduceBEq, zc0]
  refine hK4 _ _ ?_
  refine za4 ?_
  show closeA _ _ = _
  simp (disch := first | assumption | omega | (simp only [r_z, zai, zad] <;> omega) | decide) only [r_c, Nat.reduceAdd, D.fix, ↓reduceIte, Nat.reduceEqDiff, zc0]
  simp [zhj, hne]
 ·have he : f.v = v := by simp at ht; omega
  refine zac hp zaj hc rfl fun K5 hK5 => ?_
  simp -dsimp -implicitDefEqProofs (disch := first | assumption | omega | (simp only [r_z, zai, zad] <;> omega) | decide) only [r_r, ↓reduceIte, Nat.reduceEqDiff, Nat.reduceAdd, D.fix, Int.reduceToNat, Nat.reduceMul, Nat.reduceBNe, Nat.reduceBEq, zc0]
  refine hK5 _ _ ?_
  refine zaq rfl (fun ht => ?_) (fun ht => ?_)
  ·have hb : b = true := ht
   refine zac hp zaj hc rfl fun K6 hK6 => ?_
   simp -dsimp -implicitDefEqProofs (disch := first | assumption | omega | (simp only [r_z, zai, zad] <;> omega) | decide) only [r_r, ↓reduceIte, Nat.reduceEqDiff, Nat.reduceAdd, D.fix, Int.reduceToNat, Nat.reduceMul, Nat.reduceBNe, Nat.reduceBEq, zc0, jgf]
   refine hK6 _ _ ?_
   refine za4 ?_
   show closeA _ _ = _
   simp (disch := first | assumption | omega | (simp only [r_z, zai, zad] <;> omega) | decide) only [r_c, Nat.reduceAdd, D.fix, ↓reduceIte, Nat.reduceEqDiff, zc0]
   simp [zhj, he, hb]
  ·have hb : b = false := ht
   refine zac hp zaj hc rfl fun K7 hK7 => ?_
   simp -dsimp -implicitDefEqProofs (disch := first | assumption | omega | (simp only [r_z, zai, zad] <;> omega) | decide) only [r_r, ↓reduceIte, Nat.reduceEqDiff, Nat.reduceAdd, D.fix, Int.reduceToNat, Nat.reduceMul, Nat.reduceBNe, Nat.reduceBEq, zc0, jgf]
   refine hK7 _ _ ?_
   refine za4 ?_
   show closeA _ _ = _
   simp (disch := first | assumption | omega | (simp only [r_z, zai, zad] <;> omega) | decide) only [r_c, Nat.reduceAdd, D.fix, ↓reduceIte, Nat.reduceEqDiff, zc0]
   simp [zhj, he, hb]
end Go.Proofs.Ytignimmnnccblaa

/- The manager's node. -/
set_option linter.unusedVariables false
set_option linter.unusedSimpArgs false
set_option maxRecDepth 100000
set_option maxHeartbeats 4000000
namespace Go.Proofs.Ytignimmnnccblaa
open Go Go.RowKit
theorem zsw : ((((((type_of% @zex) ∧ (type_of% @zey)) ∧ ((type_of% @zfa) ∧ (type_of% @zo0))) ∧ (((type_of% @zje) ∧ (type_of% @zjf)) ∧ ((type_of% @zjg) ∧ (type_of% @zgk)))) ∧ ((((type_of% @zgl) ∧ (type_of% @zhv)) ∧ ((type_of% @zhu) ∧ (type_of% @zxe))) ∧ (((type_of% @zxf) ∧ (type_of% @zjv)) ∧ ((type_of% @zjw) ∧ (type_of% @zw5))))) ∧ (((((type_of% @zw6) ∧ (type_of% @zw7)) ∧ ((type_of% @zw8) ∧ (type_of% @zlz))) ∧ (((type_of% @zl0) ∧ (type_of% @zhq)) ∧ ((type_of% @zhr) ∧ (type_of% @zmk)))) ∧ ((((type_of% @zml) ∧ (type_of% @zq4)) ∧ ((type_of% @zgq) ∧ (type_of% @zgr))) ∧ (((type_of% @zgf) ∧ (type_of% @zgg)) ∧ ((type_of% @zgh) ∧ (type_of% @zjs)))))) := ⟨⟨⟨⟨⟨@zex, @zey⟩, ⟨@zfa, @zo0⟩⟩, ⟨⟨@zje, @zjf⟩, ⟨@zjg, @zgk⟩⟩⟩, ⟨⟨⟨@zgl, @zhv⟩, ⟨@zhu, @zxe⟩⟩, ⟨⟨@zxf, @zjv⟩, ⟨@zjw, @zw5⟩⟩⟩⟩, ⟨⟨⟨⟨@zw6, @zw7⟩, ⟨@zw8, @zlz⟩⟩, ⟨⟨@zl0, @zhq⟩, ⟨@zhr, @zmk⟩⟩⟩, ⟨⟨⟨@zml, @zq4⟩, ⟨@zgq, @zgr⟩⟩, ⟨⟨@zgf, @zgg⟩, ⟨@zgh, @zjs⟩⟩⟩⟩⟩
theorem ziv {a b c : Nat} : Value.agg #[.int .i64 (a : Int), .int .i64 (b : Int), .int .i64 (c : Int)] = k3V a b c := rfl
def jqr (V : Nat) (ts : List T) (μm : Mp) (t : T) (x : AV) (S' : zar) : Prop := ∃ ts' μu', S' = zbe ts' μu' μm ∧ x = .d (iD (num ts' t)) ∧ MS V ts' μu' μm ∧ ts <+: ts' ∧ ts'.length ≤ ts.length + 1 ∧ t ∈ zbq ts'
theorem jjr (V : Nat) (ts : List T) (μu μm : Mp) (hS : MS V ts μu μm) (v : Nat) (lo hi : T) (hv : v < V) (h1 : lo ∈ zbq ts) (h2 : hi ∈ zbq ts) (h3 : lo.Ok V (v + 1)) (h4 : hi.Ok V (v + 1)) (hlen : ts.length < zel) : ScS Try.prog [0, 1, 2] 66 [.op 0 0, .d (iD v), .d (iD (num ts lo)), .d (iD (num ts hi))] (zbe ts μu μm) (jqr V ts μm (mkT v lo hi)) := by
 refine zhd (fn := Try.f66) (by kernel_rfl) Try.func66 rfl (Nat.le_of_ble_eq_true rfl) fun c hc hp => ?_
 refine jb2 ?_
 unfold zbe zbh
 have hl := hS.len
 have hV := hS.V0
 unfold zel at hl hlen
 refine zac hp zaj hc rfl fun K1 hK1 => ?_
 simp -dsimp -implicitDefEqProofs (disch := first | assumption | omega | (simp only [r_z, zai, zad] <;> omega) | decide) only [r_r, ↓reduceIte, Nat.reduceEqDiff, Nat.reduceAdd, D.fix, Int.reduceToNat, Nat.reduceMul, Nat.reduceBNe, Nat.reduceBEq, r_m]
 refine hK1 _ _ ?_
 refine zam fun K2 hK2 => ?_
 refine zac hp zaj hc rfl fun K3 hK3 => ?_
 simp -dsimp -implicitDefEqProofs (disch := first | assumption | omega | (simp only [r_z, zai, zad] <;> omega) | decide) only [r_r, ↓reduceIte, Nat.reduceEqDiff, Nat.reduceAdd, D.fix, Int.reduceToNat, Nat.reduceMul, Nat.reduceBNe, Nat.reduceBEq, r_m, zsw]
 refine hK3 _ _ ?_
 refine zaq rfl (fun ht => ?_) (fun ht => ?_)
 ·have he : lo = hi := zdl h1 h2 (by simp at ht; omega)
  refine zac hp zaj hc rfl fun K4 hK4 => ?_
  simp -dsimp -implicitDefEqProofs (disch := first | assumption | omega | (simp only [r_z, zai, zad] <;> omega) | decide) only [r_r, ↓reduceIte, Nat.reduceEqDiff, Nat.reduceAdd, D.fix, Int.reduceToNat, Nat.reduceMul, Nat.reduceBNe, Nat.reduceBEq, r_m]
  refine hK4 _ _ ?_
  refine zb2 hp (τ' := frL [(8, .d (iD (num ts lo)))]) (H' := zbe ts μu μm) ?_ ?_
  ·refine Rt.trans (Rt.gc (keep := [0,1,2,3]) (by decide) (by decide) (by simp [fzH, gcH])) ?_
   refine Rt.end (by repeat (first | exact zak _ | refine zah ?_ (by first | rfl | (simp [r_f, zai, zad]; done) | simp [r_f, zai, zad, *]))) ?_
   simp only [r_g, Nat.reduceAdd, ↓reduceIte, Nat.reduceEqDiff, r_m]; rfl
  refine za4 ?_
  refine zbp (t := 8) rfl ?_
  show ∃ _, _
  refine ⟨ts, μu, rfl, ?_, hS, List.prefix_refl _, by omega, ?_⟩
  ·simp [mkT, he, frL]
  ·simpa [mkT, he] using h2
 ·have hne : lo ≠ hi := fun e => by subst e; simp at ht
  have hmk : mkT v lo hi = .node v lo hi := if_neg hne
  have hok : (T.node v lo hi).Ok V 0 := ⟨Nat.zero_le _, hv, hne, h3, h4⟩
  have hk : zpz Try.prog tU (k3V v (num ts lo) (num ts hi)) := hS.keyU (v := v) (by omega) h1 h2
  refine zay (hK2 _ _ ?_)
  refine zac hp zaj hc rfl fun K5 hK5 => ?_
  simp -dsimp -implicitDefEqProofs (disch := first | assumption | omega | (simp only [r_z, zai, zad] <;> omega) | decide) only [r_r, ↓reduceIte, Nat.reduceEqDiff, Nat.reduceAdd, D.fix, Int.reduceToNat, Nat.reduceMul, Nat.reduceBNe, Nat.reduceBEq, r_m, zsw]
  refine hK5 _ _ ?_
  refine zbn zaj hc mixed rfl (q := 0) (by kernel_rfl) (by kernel_rfl) fun K6 hK6 => ?_
  by_cases hg : (T.node v lo hi ∈ zbq ts)
  ·have hin : T.node v lo hi ∈ ts := by simpa [zbq] using hg
   have hgm : zg5 (k3V v (num ts lo) (num ts hi)) μu = some (vi (num ts (.node v lo hi))) := hS.u.get _ hin
   simp -dsimp -implicitDefEqProofs (disch := first | assumption | omega | (simp only [r_z, zai, zad] <;> omega) | decide) only [r_r, ↓reduceIte, Nat.reduceEqDiff, Nat.reduceAdd, D.fix, Int.reduceToNat, Nat.reduceMul, Nat.reduceBNe, Nat.reduceBEq, r_m, ziv, zih, zsh mtU hk hS.u.ok, hgm, Option.getD_some, Option.getD_none, Option.isSome_some, Option.isSome_none, zsw]
   refine hK6 _ _ ?_
   refine zam fun K7 hK7 => ?_
   refine zac hp zaj hc rfl fun K8 hK8 => ?_
   simp -dsimp -implicitDefEqProofs (disch := first | assumption | omega | (simp only [r_z, zai, zad] <;> omega) | decide) only [r_r, ↓reduceIte, Nat.reduceEqDiff, Nat.reduceAdd, D.fix, Int.reduceToNat, Nat.reduceMul, Nat.reduceBNe, Nat.reduceBEq, r_m, zsw]
   refine hK8 _ _ ?_
   refine zaq rfl (fun ht => ?_) (fun ht => ?_)
   ·cases ht
   ·refine zay (hK7 _ _ ?_)
    refine zac hp zaj hc rfl fun K9 hK9 => ?_
    simp -dsimp -implicitDefEqProofs (disch := first | assumption | omega | (simp only [r_z, zai, zad] <;> omega) | decide) only [r_r, ↓reduceIte, Nat.reduceEqDiff, Nat.reduceAdd, D.fix, Int.reduceToNat, Nat.reduceMul, Nat.reduceBNe, Nat.reduceBEq, r_m]
    refine hK9 _ _ ?_
    refine zb2 hp (τ' := frL [(8, .d (iD (num ts (.node v lo hi))))]) (H' := zbe ts μu μm) ?_ ?_
    ·refine Rt.trans (Rt.gc (keep := [0,1,2,3]) (by decide) (by decide) (by simp [fzH, gcH])) ?_
     refine Rt.end (by repeat (first | exact zak _ | refine zah ?_ (by first | rfl | (simp [r_f, zai, zad]; done) | simp [r_f, zai, zad, *]))) ?_
     simp only [r_g, Nat.reduceAdd, ↓reduceIte, Nat.reduceEqDiff, r_m]; rfl
    refine za4 ?_
    refine zbp (t := 8) rfl ?_
    show ∃ _, _
    rw [← hmk] at hg ⊢
    exact ⟨ts, μu, rfl, rfl, hS, List.prefix_refl _, by omega, hg⟩
  ·have hgm : zg5 (k3V v (num ts lo) (num ts hi)) μu = none := hS.u.none hS.row rfl hg h1 h2
   simp -dsimp -implicitDefEqProofs (disch := first | assumption | omega | (simp only [r_z, zai, zad] <;> omega) | decide) only [r_r, ↓reduceIte, Nat.reduceEqDiff, Nat.reduceAdd, D.fix, Int.reduceToNat, Nat.reduceMul, Nat.reduceBNe, Nat.reduceBEq, r_m, ziv, zih, zsh mtU hk hS.u.ok, hgm, Option.getD_some, Option.getD_none, Option.isSome_some, Option.isSome_none, zsw]
   refine hK6 _ _ ?_
   refine zam fun K10 hK10 => ?_
   refine zac hp zaj hc rfl fun K11 hK11 => ?_
   simp -dsimp -implicitDefEqProofs (disch := first | assumption | omega | (simp only [r_z, zai, zad] <;> omega) | decide) only [r_r, ↓reduceIte, Nat.reduceEqDiff, Nat.reduceAdd, D.fix, Int.reduceToNat, Nat.reduceMul, Nat.reduceBNe, Nat.reduceBEq, r_m, zsw]
   refine hK11 _ _ ?_
   refine zaq rfl (fun ht => ?_) (fun ht => ?_)
   ·refine zac hp zaj hc rfl fun K12 hK12 => ?_
    simp -dsimp -implicitDefEqProofs (disch := first | assumption | omega | (simp only [r_z, zai, zad] <;> omega) | decide) only [r_r, ↓reduceIte, Nat.reduceEqDiff, Nat.reduceAdd, D.fix, Int.reduceToNat, Nat.reduceMul, Nat.reduceBNe, Nat.reduceBEq, r_m, zsw]
    refine hK12 _ _ ?_
    refine znf zaj hp hc mixed rfl [(0, []), (1, []), (2, []), (3, []), (4, []), (5, []), (6, []), (7, []), (8, []), (9, []), (10, []), (11, []), (12, []), (13, [3, 4]), (14, []), (15, []), (16, []), (17, []), (18, []), (19, [])] [[], [0], [0, 1], [0, 1, 2], [], [], [], [], [7], [7, 8], [7, 8, 9], [], [11], [7, 8, 9, 10, 11, 12], [0, 1, 2, 3, 4, 7, 8, 9, 10, 11, 12, 13], [0, 1, 2, 3, 4, 7, 8, 9, 10, 11, 12, 13, 14], [0, 1, 2, 3, 4, 6, 7, 8, 9, 10, 11, 12, 13, 14, 15], [0, 1, 2, 3, 4, 5, 6, 7, 8, 9, 10, 11, 12, 13, 14, 15, 16], [0, 1, 2, 3, 4, 5, 6, 7, 8, 9, 10, 11, 12, 13, 14, 15, 16, 17], [0, 1, 2, 3, 4, 5, 6, 7, 8, 9, 10, 11, 12, 13, 14, 15, 16, 17, 18]] 1 (by kernel_rfl) fun K13 hK13 => ?_
    simp -dsimp -implicitDefEqProofs (disch := first | assumption | omega | (simp only [r_z, zai, zad] <;> omega) | decide) only [r_r, ↓reduceIte, Nat.reduceEqDiff, Nat.reduceAdd, D.fix, Int.reduceToNat, Nat.reduceMul, Nat.reduceBNe, Nat.reduceBEq, r_w, r_m, ziv, jsy mtU hk hS.u.ok hgm, jsz hS.u.ok hk.1 hgm, zsw]
    refine hK13 _ _ (hK10 _ _ ?_)
    refine zac hp zaj hc rfl fun K14 hK14 => ?_
    simp -dsimp -implicitDefEqProofs (disch := first | assumption | omega | (simp only [r_z, zai, zad] <;> omega) | decide) only [r_r, ↓reduceIte, Nat.reduceEqDiff, Nat.reduceAdd, D.fix, Int.reduceToNat, Nat.reduceMul, Nat.reduceBNe, Nat.reduceBEq, r_m]
    refine hK14 _ _ ?_
    refine zb2 hp (τ' := frL [(8, .d (iD (2 + ts.length)))]) (H' := zbe (ts ++ [.node v lo hi]) (znz (ndV (zjr ts (.node v lo hi))) (vi (2 + ts.length)) μu) μm) ?_ ?_
    ·refine Rt.trans (Rt.gc (keep := [0,1,2,6]) (by decide) (by decide) (by simp [fzH, gcH])) ?_
     refine Rt.end (by repeat (first | exact zak _ | refine zah ?_ (by first | rfl | (simp [r_f, zai, zad]; done) | simp [r_f, zai, zad, *]))) ?_
     simp only [r_g, Nat.reduceAdd, ↓reduceIte, Nat.reduceEqDiff]; unfold zbe zbh; rw [jcp (t := .node v lo hi) hS.row h1 h2]; simp [ndC, zjr, ndV, T.v, T.l, T.h, vi, iD, avs, Nat.add_assoc]
    refine za4 ?_
    refine zbp (t := 8) rfl ?_
    show ∃ _, _
    have hnew : num (ts ++ [.node v lo hi]) (.node v lo hi) = 2 + ts.length := zp2 hg
    refine ⟨ts ++ [.node v lo hi], _, rfl, ?_, hS.add (t := .node v lo hi) hok rfl hg h1 h2 (by unfold zel; omega), List.prefix_append _ _, by simp, ?_⟩
    ·rw [hmk, hnew]; rfl
    ·rw [hmk, zfp]; simp
   ·cases ht
end Go.Proofs.Ytignimmnnccblaa
