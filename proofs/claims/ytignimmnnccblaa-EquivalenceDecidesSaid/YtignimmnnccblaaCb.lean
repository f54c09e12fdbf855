/- The manager's tables in memory; keys of its maps. -/
import Derived.Test.YtignimmnnccblaaBa
import Derived.Test.YtignimmnnccblaaTy
import Derived.Test.YtignimmnnccblaaQr
set_option linter.unusedVariables false
set_option linter.unusedSimpArgs false
namespace Go.Proofs.Ytignimmnnccblaa
open Go Go.RowKit
theorem jub {n : Int} (h : I64 n) : (Lit.int .i64 n).wf = true := by
 obtain ⟨h1, h2⟩ := h
 simp [Lit.wf]; exact ⟨h1, by omega⟩
section
variable {P : Program}
theorem zo1 {e : TypeId} (hu : P.underlying e = some (.int .i64)) {n : Int} (hn : I64 n) (d : Nat) : P.keyLits (d + 1) e [.int .i64 n] = some [.int .i64 n] := by
 simp [Program.keyLits, hu, jub hn]
theorem jdi {n : Nat} (h : Nat.ble 1 n = true) : ∃ d, n = d + 1 := ⟨n - 1, by have := Nat.le_of_ble_eq_true h; omega⟩
end
theorem jp8 {a b c : Int} (ha : I64 a) (hb : I64 b) (hc : I64 c) : zpw Try.prog 127 (.agg #[.int .i64 a, .int .i64 b, .int .i64 c]) := by
 refine ⟨rfl, fun kt et hm => ?_⟩
 have h0 : zgr Try.prog 127 = some (125, 3) := by kernel_rfl
 rw [h0] at hm; cases hm
 obtain ⟨d, hd⟩ : ∃ d, Try.prog.types.size = d + 1 := jdi (by kernel_rfl)
 have h1 : Try.prog.keyType 125 = true := by kernel_rfl
 have h2 : Try.prog.cellsOf 125 = 3 := by kernel_rfl
 have h3 : Try.prog.cellsOf 3 = 1 := by kernel_rfl
 unfold keyOf
 rw [Try.underlying125]
 have h4 : Value.formed Try.prog 125 (.agg #[.int .i64 a, .int .i64 b, .int .i64 c]) = true := by
  unfold Value.formed
  simp only [Try.underlying125, h2]; rfl
 simp only [h1, h4, Bool.and_self, if_true, hd]
 unfold Program.keyLits
 simp only [Try.underlying125, h2, h3, Value.cells, List.mapM_cons, List.mapM_nil, List.drop_zero, List.drop_succ_cons, List.take_succ_cons, List.take_zero, zo1 Try.underlying3 ha, zo1 Try.underlying3 hb, zo1 Try.underlying3 hc]
 rw [if_pos ⟨rfl, by first | rfl | decide | simp⟩]; rfl
theorem jp9 {a b c : Int} (ha : I64 a) (hb : I64 b) (hc : I64 c) : zpw Try.prog 128 (.agg #[.int .i64 a, .int .i64 b, .int .i64 c]) := by
 refine ⟨rfl, fun kt et hm => ?_⟩
 have h0 : zgr Try.prog 128 = some (132, 3) := by kernel_rfl
 rw [h0] at hm; cases hm
 obtain ⟨d, hd⟩ : ∃ d, Try.prog.types.size = d + 1 := jdi (by kernel_rfl)
 have h1 : Try.prog.keyType 132 = true := by kernel_rfl
 have h2 : Try.prog.cellsOf 132 = 3 := by kernel_rfl
 have h3 : Try.prog.cellsOf 3 = 1 := by kernel_rfl
 unfold keyOf
 rw [Try.underlying132]
 have h4 : Value.formed Try.prog 132 (.agg #[.int .i64 a, .int .i64 b, .int .i64 c]) = true := by
  unfold Value.formed
  simp only [Try.underlying132, h2]; rfl
 simp only [h1, h4, Bool.and_self, if_true, hd]
 unfold Program.keyLits
 have h5 : List.range 3 = [0, 1, 2] := rfl
 simp only [Try.underlying132, h2, h3, h5, Value.cells, List.mapM_cons, List.mapM_nil, Nat.zero_mul, Nat.one_mul, Nat.mul_one, List.drop_zero, List.drop_succ_cons, List.take_succ_cons, List.take_zero, zo1 Try.underlying3 ha, zo1 Try.underlying3 hb, zo1 Try.underlying3 hc]
 rfl
theorem jsl {t et : TypeId} (h0 : zgr Try.prog t = some (3, et)) {a : Int} (ha : I64 a) : zpw Try.prog t (.int .i64 a) := by
 refine ⟨rfl, fun kt et' hm => ?_⟩
 rw [h0] at hm; cases hm
 exact zke Try.underlying3 ha
theorem jji {n : Nat} (h : n ≤ 4000000000) : I64 (n : Int) := ⟨by omega, by omega⟩
def ndC (n : Nd) : List D := [iD n.v, iD n.lo, iD n.hi]
def vi (n : Nat) : Value := .int .i64 n
def k3V (a b c : Nat) : Value := .agg #[vi a, vi b, vi c]
def ndV (n : Nd) : Value := k3V n.v n.lo n.hi
theorem jkv (n : Nd) : (ndC n).length = 3 := rfl
section
variable {l : List Nd} {k : Nat}
theorem zxn (h : k < l.length) : zcj (l.flatMap ndC) (k * 3) 3 = some (ndC (nth l k)) := zhc jkv h
theorem juc (h : k < l.length) : (l.flatMap ndC)[k * 3]? = some (iD (nth l k).v) := (zi0 (j := 0) jkv h (by omega)).trans rfl
theorem zad : (l.flatMap ndC).length = l.length * 3 := zeu jkv l
theorem zim (l : List Nd) : (l.flatMap ndC).map D.fix = l.flatMap ndC := zmj (fun _ => rfl) l
end
theorem znl {a b : Nat} (h : vi a = vi b) : a = b := by
 unfold vi at h; injection h with _ h; omega
theorem jjj {a b c a' b' c' : Nat} (h : k3V a b c = k3V a' b' c') : a = a' ∧ b = b' ∧ c = c' := by
 unfold k3V at h
 injection h with h
 have h' := congrArg Array.toList h
 simp only [List.cons.injEq, and_true] at h'
 exact ⟨znl h'.1, znl h'.2.1, znl h'.2.2⟩
theorem jdj {m n : Nd} (h : ndV m = ndV n) : m = n := by
 obtain ⟨h1, h2, h3⟩ := jjj h
 cases m; cases n; simp_all
theorem jqa {a b c : Nat} : zjc (k3V a b c) = true := rfl
abbrev tU : TypeId := 127
abbrev tM : TypeId := 128
def zel : Nat := 100000000
structure UOk (ts : List T) (μ : Mp) : Prop where
 ok : OkM Try.prog tU μ
 get : ∀ t ∈ ts, zgw (ndV (zjn ts t)) μ = some (vi (num ts t))
 inv : ∀ k u, zgw k μ = some u → ∃ t ∈ ts, k = ndV (zjn ts t)
structure MOk (ts : List T) (μ : Mp) : Prop where
 ok : OkM Try.prog tM μ
 inv : ∀ k u, zgw k μ = some u → ∃ f g h t, f ∈ zbr ts ∧ g ∈ zbr ts ∧ h ∈ zbr ts ∧ t ∈ zbr ts ∧ k = k3V (num ts f) (num ts g) (num ts h) ∧ u = vi (num ts t) ∧ Ite f g h t
structure MS (V : Nat) (ts : List T) (μu μm : Mp) : Prop where
 row : RowOk V ts
 u : UOk ts μu
 m : MOk ts μm
 len : ts.length ≤ zel
 V0 : V ≤ 900
theorem UOk.none {V : Nat} {ts : List T} {μ : Mp} (h : UOk ts μ) (hr : RowOk V ts) {t : T} (ht : t.lf = false) (hn : t ∉ zbr ts) (hl : t.l ∈ zbr ts) (hh : t.h ∈ zbr ts) : zgw (ndV (zjn ts t)) μ = none := by
 cases hg : zgw (ndV (zjn ts t)) μ with
 | none => rfl
 | some u =>
  obtain ⟨s, hs, he⟩ := h.inv _ _ hg
  have := jiw hr hs ht hl hh (jdj he).symm
  exact absurd (List.mem_cons_of_mem _ (List.mem_cons_of_mem _ (this ▸ hs))) hn
theorem znm {ts : List T} (h : ts.length ≤ zel) {t : T} (ht : t ∈ zbr ts) : num ts t ≤ 4000000000 := by
 have := zee ht; unfold zel at h; omega
theorem T.Ok.v_le {V k : Nat} {t : T} (h : t.Ok V k) (hV : V ≤ 900) : t.v ≤ 1000 := by
 cases t with
 | leaf b => exact Nat.le_refl _
 | node v l r => have := h.2.1; show v ≤ 1000; omega
theorem MS.keyU {V : Nat} {ts : List T} {μu μm : Mp} (h : MS V ts μu μm) {v : Nat} (hv : v ≤ 1000) {lo hi : T} (hl : lo ∈ zbr ts) (hh : hi ∈ zbr ts) : zpw Try.prog tU (ndV ⟨v, num ts lo, num ts hi⟩) :=
 jp8 (jji (n := v) (by omega)) (jji (znm h.len hl)) (jji (znm h.len hh))
theorem MS.keyM {V : Nat} {ts : List T} {μu μm : Mp} (h : MS V ts μu μm) {f g t : T} (hf : f ∈ zbr ts) (hg : g ∈ zbr ts) (ht : t ∈ zbr ts) : zpw Try.prog tM (k3V (num ts f) (num ts g) (num ts t)) :=
 jp9 (jji (znm h.len hf)) (jji (znm h.len hg)) (jji (znm h.len ht))
theorem MS.add {V : Nat} {ts : List T} {μu μm : Mp} (h : MS V ts μu μm) {t : T} (hk : t.Ok V 0) (ht : t.lf = false) (hn : t ∉ zbr ts) (hl : t.l ∈ zbr ts) (hh : t.h ∈ zbr ts) (hlen : ts.length < zel) :
  MS V (ts ++ [t]) (znz (ndV (zjn ts t)) (vi (2 + ts.length)) μu) μm := by
 have hp : ts <+: ts ++ [t] := List.prefix_append _ _
 have hkey : zpw Try.prog tU (ndV (zjn ts t)) := h.keyU (v := t.v) (hk.v_le h.V0) hl hh
 refine ⟨h.row.snoc hk hn hl hh, ⟨h.u.ok.put hkey, fun s hs => ?_, fun k u hg => ?_⟩, ⟨h.m.ok, fun k u hg => ?_⟩, by simp; omega, h.V0⟩
 ·classical
  rw [zf2 hkey.1 (by rfl)]
  rcases List.mem_append.1 hs with hs | hs
  ·have hsf : s ∈ zbr ts := List.mem_cons_of_mem _ (List.mem_cons_of_mem _ hs)
   rw [zwh h.row hp hsf, zdp hp hsf, if_neg fun e => hn (jiw h.row hs ht hl hh (jdj e) ▸ hsf)]
   exact h.u.get s hs
  ·rw [List.mem_singleton.1 hs, zpz hn]
   unfold zjn
   rw [zef hl, zef hh, if_pos rfl]
 ·classical
  by_cases hk' : zjc k = true
  ·rw [zf2 hkey.1 hk'] at hg
   split at hg
   ·rename_i e
    refine ⟨t, by simp, ?_⟩
    rw [e]; unfold zjn
    rw [zef hl, zef hh]
   ·obtain ⟨s, hs, rfl⟩ := h.u.inv k u hg
    exact ⟨s, List.mem_append_left _ hs, by rw [zwh h.row hp (List.mem_cons_of_mem _ (List.mem_cons_of_mem _ hs))]⟩
  ·obtain ⟨n, hm⟩ := zkf hg
   exact absurd ((h.u.ok.put hkey).keys _ hm).1 hk'
 ·obtain ⟨f, g, q, r, a1, a2, a3, a4, rfl, rfl, a5⟩ := h.m.inv k u hg
  exact ⟨f, g, q, r, zgy a1, zgy a2, zgy a3, zgy a4, by rw [zef a1, zef a2, zef a3], by rw [zef a4], a5⟩
theorem MS.memo {V : Nat} {ts : List T} {μu μm : Mp} (h : MS V ts μu μm) {f g q t : T} (hf : f ∈ zbr ts) (hg : g ∈ zbr ts) (hq : q ∈ zbr ts) (ht : t ∈ zbr ts) (hi : Ite f g q t) :
  MS V ts μu (znz (k3V (num ts f) (num ts g) (num ts q)) (vi (num ts t)) μm) := by
 refine ⟨h.row, h.u, ⟨h.m.ok.put (h.keyM hf hg hq), fun k u hk => ?_⟩, h.len, h.V0⟩
 classical
 by_cases hk' : zjc k = true
 ·rw [zf2 (h.keyM hf hg hq).1 hk'] at hk
  split at hk
  ·rename_i e
   cases hk
   exact ⟨f, g, q, t, hf, hg, hq, ht, e, rfl, hi⟩
  ·exact h.m.inv k u hk
 ·obtain ⟨n, hm⟩ := zkf hk
  exact absurd ((h.m.ok.put (h.keyM hf hg hq)).keys _ hm).1 hk'
def zbe (n : Nat) : List AV := [.os 3 3 0 n, .om 1, .om 2]
def zba (ts : List T) (μu μm : Mp) : zap := [.cells (zbe (2 + ts.length)), mO μu, mO μm, .cells (avs ((jb7 ts).flatMap ndC))]
def zcw (ts : List T) (μu μm : Mp) : D := .fp [.fs ((jb7 ts).flatMap ndC) (2 + ts.length), mD μu, mD μm] 0
theorem mtU : mtB Try.prog KT tU = some (.int .i64 0) := by kernel_rfl
theorem mtM : mtB Try.prog KT tM = some (.int .i64 0) := by kernel_rfl
end Go.Proofs.Ytignimmnnccblaa

/- The manager's part and node. -/
set_option linter.unusedVariables false
set_option linter.unusedSimpArgs false
set_option maxRecDepth 100000
set_option maxHeartbeats 4000000
namespace Go.Proofs.Ytignimmnnccblaa
open Go Go.RowKit
theorem jf5 : (((((type_of% @zge) ∧ (type_of% @zgf)) ∧ ((type_of% @zjr) ∧ ((type_of% @zjs) ∧ (type_of% @zf3)))) ∧ (((type_of% @zf4) ∧ (type_of% @zf5)) ∧ ((type_of% @zf8) ∧ ((type_of% @zf9) ∧ (type_of% @zhp))))) ∧ ((((type_of% @zho) ∧ (type_of% @zex)) ∧ ((type_of% @zey) ∧ ((type_of% @ze4) ∧ (type_of% @ze5)))) ∧ (((type_of% @ze7) ∧ (type_of% @zgc)) ∧ ((type_of% @zgd) ∧ ((type_of% @zga) ∧ (type_of% @zgb)))))) := ⟨⟨⟨⟨@zge, @zgf⟩, ⟨@zjr, ⟨@zjs, @zf3⟩⟩⟩, ⟨⟨@zf4, @zf5⟩, ⟨@zf8, ⟨@zf9, @zhp⟩⟩⟩⟩, ⟨⟨⟨@zho, @zex⟩, ⟨@zey, ⟨@ze4, @ze5⟩⟩⟩, ⟨⟨@ze7, @zgc⟩, ⟨@zgd, ⟨@zga, @zgb⟩⟩⟩⟩⟩
theorem zo2 (ts : List T) (μu μm : Mp) (f : T) (hf : f ∈ zbr ts) (hl : ts.length ≤ zel) (v : Nat) (b : Bool) : zbd Try.prog 75 [zcw ts μu μm, iD (num ts f), iD v, oD b] (.d (iD (num ts (zhg f v b)))) := by
 refine zbg (fn := Try.f75) (by kernel_rfl) Try.func75 rfl (Nat.le_of_ble_eq_true rfl) fun c hc hp => ?_
 refine zbh (τ' := frL [(0, .d (zcw ts μu μm)), (1, .d (iD (num ts f))), (2, .d (iD v)), (3, .d (oD b))]) (by repeat (first | exact zam _ | refine zai ?_ (by first | rfl | (simp [r_f, zah, zad]; done) | simp [r_f, zah, zad, *]))) ?_
 refine zac hp zak hc rfl fun K1 hK1 => ?_
 simp -dsimp -implicitDefEqProofs (disch := first | assumption | omega | (simp only [r_z, zah, zad] <;> omega) | decide) only [r_r, ↓reduceIte, Nat.reduceEqDiff, Nat.reduceAdd, D.fix, Int.reduceToNat, Nat.reduceMul, Nat.reduceBNe, Nat.reduceBEq, zcw]
 refine hK1 _ _ ?_
 have hn := zee hf
 unfold zel at hl
 refine zac hp zak hc rfl fun K2 hK2 => ?_
 simp -dsimp -implicitDefEqProofs (disch := first | assumption | omega | (simp only [r_z, zah, zad] <;> omega) | decide) only [r_r, ↓reduceIte, Nat.reduceEqDiff, Nat.reduceAdd, D.fix, Int.reduceToNat, Nat.reduceMul, Nat.reduceBNe, Nat.reduceBEq, zcw, zxn, jkv, zi1 hf, ndC, zjn, jf5]
 refine hK2 _ _ ?_
 refine zaz ?_
 refine zac hp zak hc rfl fun K3 hK3 => ?_
 simp -dsimp -implicitDefEqProofs (disch := first | assumption | omega | (simp only [r_z, zah, zad] <;> omega) | decide) only [r_r, ↓reduceIte, Nat.reduceEqDiff, Nat.reduceAdd, D.fix, Int.reduceToNat, Nat.reduceMul, Nat.reduceBNe, Nat.reduceBEq, zcw, jf5]
 refine hK3 _ _ ?_
 refine zaq rfl (fun ht => ?_) (fun ht => ?_)
 ·have hne : f.v ≠ v := by simp at ht; omega
  refine zac hp zak hc rfl fun K4 hK4 => ?_
  simp -dsimp -implicitDefEqProofs (disch := first | assumption | omega | (simp only [r_z, zah, zad] <;> omega) | decide) only [r_r, ↓reduceIte, Nat.reduceEqDiff, Nat.reduceAdd, D.fix, Int.reduceToNat, Nat.reduceMul, Nat.reduceBNe, Nat.reduceBEq, zcw]
  refine hK4 _ _ ?_
  refine za4 ?_
  show closeA _ _ = _
  simp (disch := first | assumption | omega | (simp only [r_z, zah, zad] <;> omega) | decide) only [r_c, Nat.reduceAdd, D.fix, ↓reduceIte, Nat.reduceEqDiff, zcw]
  simp [zhg, hne]
 ·have he : f.v = v := by simp at ht; omega
  refine zac hp zak hc rfl fun K5 hK5 => ?_
  simp -dsimp -implicitDefEqProofs (disch := first | assumption | omega | (simp only [r_z, zah, zad] <;> omega) | decide) only [r_r, ↓reduceIte, Nat.reduceEqDiff, Nat.reduceAdd, D.fix, Int.reduceToNat, Nat.reduceMul, Nat.reduceBNe, Nat.reduceBEq, zcw]
  refine hK5 _ _ ?_
  refine zaq rfl (fun ht => ?_) (fun ht => ?_)
  ·have hb : b = true := ht
   refine zac hp zak hc rfl fun K6 hK6 => ?_
   simp -dsimp -implicitDefEqProofs (disch := first | assumption | omega | (simp only [r_z, zah, zad] <;> omega) | decide) only [r_r, ↓reduceIte, Nat.reduceEqDiff, Nat.reduceAdd, D.fix, Int.reduceToNat, Nat.reduceMul, Nat.reduceBNe, Nat.reduceBEq, zcw, jf5]
   refine hK6 _ _ ?_
   refine za4 ?_
   show closeA _ _ = _
   simp (disch := first | assumption | omega | (simp only [r_z, zah, zad] <;> omega) | decide) only [r_c, Nat.reduceAdd, D.fix, ↓reduceIte, Nat.reduceEqDiff, zcw]
   simp [zhg, he, hb]
  ·have hb : b = false := ht
   refine zac hp zak hc rfl fun K7 hK7 => ?_
   simp -dsimp -implicitDefEqProofs (disch := first | assumption | omega | (simp only [r_z, zah, zad] <;> omega) | decide) only [r_r, ↓reduceIte, Nat.reduceEqDiff, Nat.reduceAdd, D.fix, Int.reduceToNat, Nat.reduceMul, Nat.reduceBNe, Nat.reduceBEq, zcw, jf5]
   refine hK7 _ _ ?_
   refine za4 ?_
   show closeA _ _ = _
   simp (disch := first | assumption | omega | (simp only [r_z, zah, zad] <;> omega) | decide) only [r_c, Nat.reduceAdd, D.fix, ↓reduceIte, Nat.reduceEqDiff, zcw]
   simp [zhg, he, hb]
end Go.Proofs.Ytignimmnnccblaa

/- The manager's node. -/
set_option linter.unusedVariables false
set_option linter.unusedSimpArgs false
set_option maxRecDepth 100000
set_option maxHeartbeats 4000000
namespace Go.Proofs.Ytignimmnnccblaa
open Go Go.RowKit
theorem zsl : ((((((type_of% @ze4) ∧ (type_of% @ze5)) ∧ ((type_of% @ze7) ∧ (type_of% @zo0))) ∧ (((type_of% @zi8) ∧ (type_of% @zi9)) ∧ ((type_of% @zja) ∧ (type_of% @zf8)))) ∧ ((((type_of% @zf9) ∧ (type_of% @zhp)) ∧ ((type_of% @zho) ∧ (type_of% @zw7))) ∧ (((type_of% @zw8) ∧ (type_of% @zjr)) ∧ ((type_of% @zjs) ∧ (type_of% @zwy))))) ∧ (((((type_of% @zwz) ∧ (type_of% @zw0)) ∧ ((type_of% @zw1) ∧ (type_of% @zl0))) ∧ (((type_of% @zl1) ∧ (type_of% @zhw)) ∧ ((type_of% @zhx) ∧ (type_of% @znt)))) ∧ ((((type_of% @znu) ∧ (type_of% @zs1)) ∧ ((type_of% @zge) ∧ (type_of% @zgf))) ∧ (((type_of% @zf3) ∧ (type_of% @zf4)) ∧ ((type_of% @zf5) ∧ (type_of% @zjo)))))) := ⟨⟨⟨⟨⟨@ze4, @ze5⟩, ⟨@ze7, @zo0⟩⟩, ⟨⟨@zi8, @zi9⟩, ⟨@zja, @zf8⟩⟩⟩, ⟨⟨⟨@zf9, @zhp⟩, ⟨@zho, @zw7⟩⟩, ⟨⟨@zw8, @zjr⟩, ⟨@zjs, @zwy⟩⟩⟩⟩, ⟨⟨⟨⟨@zwz, @zw0⟩, ⟨@zw1, @zl0⟩⟩, ⟨⟨@zl1, @zhw⟩, ⟨@zhx, @znt⟩⟩⟩, ⟨⟨⟨@znu, @zs1⟩, ⟨@zge, @zgf⟩⟩, ⟨⟨@zf3, @zf4⟩, ⟨@zf5, @zjo⟩⟩⟩⟩⟩
theorem zin {a b c : Nat} : Value.agg #[.int .i64 (a : Int), .int .i64 (b : Int), .int .i64 (c : Int)] = k3V a b c := rfl
def jqb (V : Nat) (ts : List T) (μm : Mp) (t : T) (x : AV) (S' : zap) : Prop := ∃ ts' μu', S' = zba ts' μu' μm ∧ x = .d (iD (num ts' t)) ∧ MS V ts' μu' μm ∧ ts <+: ts' ∧ ts'.length ≤ ts.length + 1 ∧ t ∈ zbr ts'
theorem jjk (V : Nat) (ts : List T) (μu μm : Mp) (hS : MS V ts μu μm) (v : Nat) (lo hi : T) (hv : v < V) (h1 : lo ∈ zbr ts) (h2 : hi ∈ zbr ts) (h3 : lo.Ok V (v + 1)) (h4 : hi.Ok V (v + 1)) (hlen : ts.length < zel) : ScS Try.prog [0, 1, 2] 66 [.op 0 0, .d (iD v), .d (iD (num ts lo)), .d (iD (num ts hi))] (zba ts μu μm) (jqb V ts μm (mkT v lo hi)) := by
 refine zha (fn := Try.f66) (by kernel_rfl) Try.func66 rfl (Nat.le_of_ble_eq_true rfl) fun c hc hp => ?_
 refine jbm ?_
 unfold zba zbe
 have hl := hS.len
 have hV := hS.V0
 unfold zel at hl hlen
 refine zac hp zak hc rfl fun K1 hK1 => ?_
 simp -dsimp -implicitDefEqProofs (disch := first | assumption | omega | (simp only [r_z, zah, zad] <;> omega) | decide) only [r_r, ↓reduceIte, Nat.reduceEqDiff, Nat.reduceAdd, D.fix, Int.reduceToNat, Nat.reduceMul, Nat.reduceBNe, Nat.reduceBEq, r_m]
 refine hK1 _ _ ?_
 refine zao fun K2 hK2 => ?_
 refine zac hp zak hc rfl fun K3 hK3 => ?_
 simp -dsimp -implicitDefEqProofs (disch := first | assumption | omega | (simp only [r_z, zah, zad] <;> omega) | decide) only [r_r, ↓reduceIte, Nat.reduceEqDiff, Nat.reduceAdd, D.fix, Int.reduceToNat, Nat.reduceMul, Nat.reduceBNe, Nat.reduceBEq, r_m, zsl]
 refine hK3 _ _ ?_
 refine zaq rfl (fun ht => ?_) (fun ht => ?_)
 ·have he : lo = hi := zdi h1 h2 (by simp at ht; omega)
  refine zac hp zak hc rfl fun K4 hK4 => ?_
  simp -dsimp -implicitDefEqProofs (disch := first | assumption | omega | (simp only [r_z, zah, zad] <;> omega) | decide) only [r_r, ↓reduceIte, Nat.reduceEqDiff, Nat.reduceAdd, D.fix, Int.reduceToNat, Nat.reduceMul, Nat.reduceBNe, Nat.reduceBEq, r_m]
  refine hK4 _ _ ?_
  refine zb3 hp (τ' := frL [(8, .d (iD (num ts lo)))]) (H' := zba ts μu μm) ?_ ?_
  ·refine Rt.trans (Rt.gc (keep := [0,1,2,3]) (by decide) (by decide) (by simp [fzH, gcH])) ?_
   refine Rt.end (by repeat (first | exact zam _ | refine zai ?_ (by first | rfl | (simp [r_f, zah, zad]; done) | simp [r_f, zah, zad, *]))) ?_
   simp only [r_g, Nat.reduceAdd, ↓reduceIte, Nat.reduceEqDiff, r_m]; rfl
  refine za4 ?_
  refine zbq (t := 8) rfl ?_
  show ∃ _, _
  refine ⟨ts, μu, rfl, ?_, hS, List.prefix_refl _, by omega, ?_⟩
  ·simp [mkT, he, frL]
  ·simpa [mkT, he] using h2
 ·have hne : lo ≠ hi := fun e => by subst e; simp at ht
  have hmk : mkT v lo hi = .node v lo hi := if_neg hne
  have hok : (T.node v lo hi).Ok V 0 := ⟨Nat.zero_le _, hv, hne, h3, h4⟩
  have hk : zpw Try.prog tU (k3V v (num ts lo) (num ts hi)) := hS.keyU (v := v) (by omega) h1 h2
  refine zay (hK2 _ _ ?_)
  refine zac hp zak hc rfl fun K5 hK5 => ?_
  simp -dsimp -implicitDefEqProofs (disch := first | assumption | omega | (simp only [r_z, zah, zad] <;> omega) | decide) only [r_r, ↓reduceIte, Nat.reduceEqDiff, Nat.reduceAdd, D.fix, Int.reduceToNat, Nat.reduceMul, Nat.reduceBNe, Nat.reduceBEq, r_m, zsl]
  refine hK5 _ _ ?_
  refine zbp zak hc mixed rfl (q := 0) (by kernel_rfl) (by kernel_rfl) fun K6 hK6 => ?_
  by_cases hg : (T.node v lo hi ∈ zbr ts)
  ·have hin : T.node v lo hi ∈ ts := by simpa [zbr] using hg
   have hgm : zgw (k3V v (num ts lo) (num ts hi)) μu = some (vi (num ts (.node v lo hi))) := hS.u.get _ hin
   simp -dsimp -implicitDefEqProofs (disch := first | assumption | omega | (simp only [r_z, zah, zad] <;> omega) | decide) only [r_r, ↓reduceIte, Nat.reduceEqDiff, Nat.reduceAdd, D.fix, Int.reduceToNat, Nat.reduceMul, Nat.reduceBNe, Nat.reduceBEq, r_m, zin, zia, zr7 mtU hk hS.u.ok, hgm, Option.getD_some, Option.getD_none, Option.isSome_some, Option.isSome_none, zsl]
   refine hK6 _ _ ?_
   refine zao fun K7 hK7 => ?_
   refine zac hp zak hc rfl fun K8 hK8 => ?_
   simp -dsimp -implicitDefEqProofs (disch := first | assumption | omega | (simp only [r_z, zah, zad] <;> omega) | decide) only [r_r, ↓reduceIte, Nat.reduceEqDiff, Nat.reduceAdd, D.fix, Int.reduceToNat, Nat.reduceMul, Nat.reduceBNe, Nat.reduceBEq, r_m, zsl]
   refine hK8 _ _ ?_
   refine zaq rfl (fun ht => ?_) (fun ht => ?_)
   ·cases ht
   ·refine zay (hK7 _ _ ?_)
    refine zac hp zak hc rfl fun K9 hK9 => ?_
    simp -dsimp -implicitDefEqProofs (disch := first | assumption | omega | (simp only [r_z, zah, zad] <;> omega) | decide) only [r_r, ↓reduceIte, Nat.reduceEqDiff, Nat.reduceAdd, D.fix, Int.reduceToNat, Nat.reduceMul, Nat.reduceBNe, Nat.reduceBEq, r_m]
    refine hK9 _ _ ?_
    refine zb3 hp (τ' := frL [(8, .d (iD (num ts (.node v lo hi))))]) (H' := zba ts μu μm) ?_ ?_
    ·refine Rt.trans (Rt.gc (keep := [0,1,2,3]) (by decide) (by decide) (by simp [fzH, gcH])) ?_
     refine Rt.end (by repeat (first | exact zam _ | refine zai ?_ (by first | rfl | (simp [r_f, zah, zad]; done) | simp [r_f, zah, zad, *]))) ?_
     simp only [r_g, Nat.reduceAdd, ↓reduceIte, Nat.reduceEqDiff, r_m]; rfl
    refine za4 ?_
    refine zbq (t := 8) rfl ?_
    show ∃ _, _
    rw [← hmk] at hg ⊢
    exact ⟨ts, μu, rfl, rfl, hS, List.prefix_refl _, by omega, hg⟩
  ·have hgm : zgw (k3V v (num ts lo) (num ts hi)) μu = none := hS.u.none hS.row rfl hg h1 h2
   simp -dsimp -implicitDefEqProofs (disch := first | assumption | omega | (simp only [r_z, zah, zad] <;> omega) | decide) only [r_r, ↓reduceIte, Nat.reduceEqDiff, Nat.reduceAdd, D.fix, Int.reduceToNat, Nat.reduceMul, Nat.reduceBNe, Nat.reduceBEq, r_m, zin, zia, zr7 mtU hk hS.u.ok, hgm, Option.getD_some, Option.getD_none, Option.isSome_some, Option.isSome_none, zsl]
   refine hK6 _ _ ?_
   refine zao fun K10 hK10 => ?_
   refine zac hp zak hc rfl fun K11 hK11 => ?_
   simp -dsimp -implicitDefEqProofs (disch := first | assumption | omega | (simp only [r_z, zah, zad] <;> omega) | decide) only [r_r, ↓reduceIte, Nat.reduceEqDiff, Nat.reduceAdd, D.fix, Int.reduceToNat, Nat.reduceMul, Nat.reduceBNe, Nat.reduceBEq, r_m, zsl]
   refine hK11 _ _ ?_
   refine zaq rfl (fun ht => ?_) (fun ht => ?_)
   ·refine zac hp zak hc rfl fun K12 hK12 => ?_
    simp -dsimp -implicitDefEqProofs (disch := first | assumption | omega | (simp only [r_z, zah, zad] <;> omega) | decide) only [r_r, ↓reduceIte, Nat.reduceEqDiff, Nat.reduceAdd, D.fix, Int.reduceToNat, Nat.reduceMul, Nat.reduceBNe, Nat.reduceBEq, r_m, zsl]
    refine hK12 _ _ ?_
    refine znh zak hp hc mixed rfl [(0, []), (1, []), (2, []), (3, []), (4, []), (5, []), (6, []), (7, []), (8, []), (9, []), (10, []), (11, []), (12, []), (13, [3, 4]), (14, []), (15, []), (16, []), (17, []), (18, []), (19, [])] [[], [0], [0, 1], [0, 1, 2], [], [], [], [], [7], [7, 8], [7, 8, 9], [], [11], [7, 8, 9, 10, 11, 12], [0, 1, 2, 3, 4, 7, 8, 9, 10, 11, 12, 13], [0, 1, 2, 3, 4, 7, 8, 9, 10, 11, 12, 13, 14], [0, 1, 2, 3, 4, 6, 7, 8, 9, 10, 11, 12, 13, 14, 15], [0, 1, 2, 3, 4, 5, 6, 7, 8, 9, 10, 11, 12, 13, 14, 15, 16], [0, 1, 2, 3, 4, 5, 6, 7, 8, 9, 10, 11, 12, 13, 14, 15, 16, 17], [0, 1, 2, 3, 4, 5, 6, 7, 8, 9, 10, 11, 12, 13, 14, 15, 16, 17, 18]] 1 (by kernel_rfl) fun K13 hK13 => ?_
    simp -dsimp -implicitDefEqProofs (disch := first | assumption | omega | (simp only [r_z, zah, zad] <;> omega) | decide) only [r_r, ↓reduceIte, Nat.reduceEqDiff, Nat.reduceAdd, D.fix, Int.reduceToNat, Nat.reduceMul, Nat.reduceBNe, Nat.reduceBEq, r_w, r_m, zin, jsj mtU hk hS.u.ok hgm, jsk hS.u.ok hk.1 hgm, zsl]
    refine hK13 _ _ (hK10 _ _ ?_)
    refine zac hp zak hc rfl fun K14 hK14 => ?_
    simp -dsimp -implicitDefEqProofs (disch := first | assumption | omega | (simp only [r_z, zah, zad] <;> omega) | decide) only [r_r, ↓reduceIte, Nat.reduceEqDiff, Nat.reduceAdd, D.fix, Int.reduceToNat, Nat.reduceMul, Nat.reduceBNe, Nat.reduceBEq, r_m]
    refine hK14 _ _ ?_
    refine zb3 hp (τ' := frL [(8, .d (iD (2 + ts.length)))]) (H' := zba (ts ++ [.node v lo hi]) (znz (ndV (zjn ts (.node v lo hi))) (vi (2 + ts.length)) μu) μm) ?_ ?_
    ·refine Rt.trans (Rt.gc (keep := [0,1,2,6]) (by decide) (by decide) (by simp [fzH, gcH])) ?_
     refine Rt.end (by repeat (first | exact zam _ | refine zai ?_ (by first | rfl | (simp [r_f, zah, zad]; done) | simp [r_f, zah, zad, *]))) ?_
     simp only [r_g, Nat.reduceAdd, ↓reduceIte, Nat.reduceEqDiff]; unfold zba zbe; rw [jb8 (t := .node v lo hi) hS.row h1 h2]; simp [ndC, zjn, ndV, T.v, T.l, T.h, vi, iD, avs, Nat.add_assoc]
    refine za4 ?_
    refine zbq (t := 8) rfl ?_
    show ∃ _, _
    have hnew : num (ts ++ [.node v lo hi]) (.node v lo hi) = 2 + ts.length := zpz hg
    refine ⟨ts ++ [.node v lo hi], _, rfl, ?_, hS.add (t := .node v lo hi) hok rfl hg h1 h2 (by unfold zel; omega), List.prefix_append _ _, by simp, ?_⟩
    ·rw [hmk, hnew]; rfl
    ·rw [hmk, zfc]; simp
   ·cases ht
end Go.Proofs.Ytignimmnnccblaa
