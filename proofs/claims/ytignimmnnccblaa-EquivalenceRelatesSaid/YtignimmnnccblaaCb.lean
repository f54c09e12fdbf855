/- The manager's tables in memory; keys of its maps. -/
import Derived.Test.YtignimmnnccblaaBa
import Derived.Test.YtignimmnnccblaaTy
import Derived.Test.YtignimmnnccblaaQr
set_option linter.unusedVariables false
set_option linter.unusedSimpArgs false
namespace Go.Proofs.Ytignimmnnccblaa
open Go Go.RowKit
theorem jtz {n : Int} (h : I64 n) : (Lit.int .i64 n).wf = true := by
 obtain ⟨h1, h2⟩ := h
 simp [Lit.wf]; exact ⟨h1, by omega⟩
section
variable {P : Program}
theorem zo7 {e : TypeId} (hu : P.underlying e = some (.int .i64)) {n : Int} (hn : I64 n) (d : Nat) : P.keyLits (d + 1) e [.int .i64 n] = some [.int .i64 n] := by
 simp [Program.keyLits, hu, jtz hn]
theorem jc9 {n : Nat} (h : Nat.ble 1 n = true) : ∃ d, n = d + 1 := ⟨n - 1, by have := Nat.le_of_ble_eq_true h; omega⟩
end
theorem jpx {a b c : Int} (ha : I64 a) (hb : I64 b) (hc : I64 c) : zp5 Try.prog 127 (.agg #[.int .i64 a, .int .i64 b, .int .i64 c]) := by
 refine ⟨rfl, fun kt et hm => ?_⟩
 have h0 : zgt Try.prog 127 = some (125, 3) := by kernel_rfl
 rw [h0] at hm; cases hm
 obtain ⟨d, hd⟩ : ∃ d, Try.prog.types.size = d + 1 := jc9 (by kernel_rfl)
 have h1 : Try.prog.keyType 125 = true := by kernel_rfl
 have h2 : Try.prog.cellsOf 125 = 3 := by kernel_rfl
 have h3 : Try.prog.cellsOf 3 = 1 := by kernel_rfl
 unfold keyOf
 rw [Try.underlying125]
 have h4 : Value.formed Try.prog 125 (.agg #[.int .i64 a, .int .i64 b, .int .i64 c]) = true := by
  unfold Value.formed
  simp only [Try.underlying125, h2]; rfl
 simp only [h1, h4, Bool.and_self, if_true, hd]
 unfold Program.keyLits
 simp only [Try.underlying125, h2, h3, Value.cells, List.mapM_cons, List.mapM_nil, List.drop_zero, List.drop_succ_cons, List.take_succ_cons, List.take_zero, zo7 Try.underlying3 ha, zo7 Try.underlying3 hb, zo7 Try.underlying3 hc]
 rw [if_pos ⟨rfl, by first | rfl | decide | simp⟩]; rfl
theorem jpy {a b c : Int} (ha : I64 a) (hb : I64 b) (hc : I64 c) : zp5 Try.prog 128 (.agg #[.int .i64 a, .int .i64 b, .int .i64 c]) := by
 refine ⟨rfl, fun kt et hm => ?_⟩
 have h0 : zgt Try.prog 128 = some (132, 3) := by kernel_rfl
 rw [h0] at hm; cases hm
 obtain ⟨d, hd⟩ : ∃ d, Try.prog.types.size = d + 1 := jc9 (by kernel_rfl)
 have h1 : Try.prog.keyType 132 = true := by kernel_rfl
 have h2 : Try.prog.cellsOf 132 = 3 := by kernel_rfl
 have h3 : Try.prog.cellsOf 3 = 1 := by kernel_rfl
 unfold keyOf
 rw [Try.underlying132]
 have h4 : Value.formed Try.prog 132 (.agg #[.int .i64 a, .int .i64 b, .int .i64 c]) = true := by
  unfold Value.formed
  simp only [Try.underlying132, h2]; rfl
 simp only [h1, h4, Bool.and_self, if_true, hd]
 unfold Program.keyLits
 have h5 : List.range 3 = [0, 1, 2] := rfl
 simp only [Try.underlying132, h2, h3, h5, Value.cells, List.mapM_cons, List.mapM_nil, Nat.zero_mul, Nat.one_mul, Nat.mul_one, List.drop_zero, List.drop_succ_cons, List.take_succ_cons, List.take_zero, zo7 Try.underlying3 ha, zo7 Try.underlying3 hb, zo7 Try.underlying3 hc]
 rfl
theorem jr9 {t et : TypeId} (h0 : zgt Try.prog t = some (3, et)) {a : Int} (ha : I64 a) : zp5 Try.prog t (.int .i64 a) := by
 refine ⟨rfl, fun kt et' hm => ?_⟩
 rw [h0] at hm; cases hm
 exact zkp Try.underlying3 ha
theorem jjl {n : Nat} (h : n ≤ 4000000000) : I64 (n : Int) := ⟨by omega, by omega⟩
def ndC (n : Nd) : List D := [iD n.v, iD n.lo, iD n.hi]
def vi (n : Nat) : Value := .int .i64 n
def k3V (a b c : Nat) : Value := .agg #[vi a, vi b, vi c]
def ndV (n : Nd) : Value := k3V n.v n.lo n.hi
theorem jkv (n : Nd) : (ndC n).length = 3 := rfl
section
variable {l : List Nd} {k : Nat}
theorem zxx (h : k < l.length) : zcl (l.flatMap ndC) (k * 3) 3 = some (ndC (nth l k)) := zhg jkv h
theorem jt0 (h : k < l.length) : (l.flatMap ndC)[k * 3]? = some (iD (nth l k).v) := (zi5 (j := 0) jkv h (by omega)).trans rfl
theorem zae : (l.flatMap ndC).length = l.length * 3 := zew jkv l
theorem zir (l : List Nd) : (l.flatMap ndC).map D.fix = l.flatMap ndC := zmj (fun _ => rfl) l
end
theorem znj {a b : Nat} (h : vi a = vi b) : a = b := by
 unfold vi at h; injection h with _ h; omega
theorem jjm {a b c a' b' c' : Nat} (h : k3V a b c = k3V a' b' c') : a = a' ∧ b = b' ∧ c = c' := by
 unfold k3V at h
 injection h with h
 have h' := congrArg Array.toList h
 simp only [List.cons.injEq, and_true] at h'
 exact ⟨znj h'.1, znj h'.2.1, znj h'.2.2⟩
theorem jda {m n : Nd} (h : ndV m = ndV n) : m = n := by
 obtain ⟨h1, h2, h3⟩ := jjm h
 cases m; cases n; simp_all
theorem jpz {a b c : Nat} : zjh (k3V a b c) = true := rfl
abbrev tU : TypeId := 127
abbrev tM : TypeId := 128
def zeo : Nat := 100000000
structure UOk (ts : List T) (μ : Mp) : Prop where
 ok : OkM Try.prog tU μ
 get : ∀ t ∈ ts, zgy (ndV (zjy ts t)) μ = some (vi (num ts t))
 inv : ∀ k u, zgy k μ = some u → ∃ t ∈ ts, k = ndV (zjy ts t)
structure MOk (ts : List T) (μ : Mp) : Prop where
 ok : OkM Try.prog tM μ
 inv : ∀ k u, zgy k μ = some u → ∃ f g h t, f ∈ zbu ts ∧ g ∈ zbu ts ∧ h ∈ zbu ts ∧ t ∈ zbu ts ∧ k = k3V (num ts f) (num ts g) (num ts h) ∧ u = vi (num ts t) ∧ Ite f g h t
structure MS (V : Nat) (ts : List T) (μu μm : Mp) : Prop where
 row : RowOk V ts
 u : UOk ts μu
 m : MOk ts μm
 len : ts.length ≤ zeo
 V0 : V ≤ 900
theorem UOk.none {V : Nat} {ts : List T} {μ : Mp} (h : UOk ts μ) (hr : RowOk V ts) {t : T} (ht : t.lf = false) (hn : t ∉ zbu ts) (hl : t.l ∈ zbu ts) (hh : t.h ∈ zbu ts) : zgy (ndV (zjy ts t)) μ = none := by
 cases hg : zgy (ndV (zjy ts t)) μ with
 | none => rfl
 | some u =>
  obtain ⟨s, hs, he⟩ := h.inv _ _ hg
  have := ji0 hr hs ht hl hh (jda he).symm
  exact absurd (List.mem_cons_of_mem _ (List.mem_cons_of_mem _ (this ▸ hs))) hn
theorem znk {ts : List T} (h : ts.length ≤ zeo) {t : T} (ht : t ∈ zbu ts) : num ts t ≤ 4000000000 := by
 have := zeg ht; unfold zeo at h; omega
theorem T.Ok.v_le {V k : Nat} {t : T} (h : t.Ok V k) (hV : V ≤ 900) : t.v ≤ 1000 := by
 cases t with
 | leaf b => exact Nat.le_refl _
 | node v l r => have := h.2.1; show v ≤ 1000; omega
theorem MS.keyU {V : Nat} {ts : List T} {μu μm : Mp} (h : MS V ts μu μm) {v : Nat} (hv : v ≤ 1000) {lo hi : T} (hl : lo ∈ zbu ts) (hh : hi ∈ zbu ts) : zp5 Try.prog tU (ndV ⟨v, num ts lo, num ts hi⟩) :=
 jpx (jjl (n := v) (by omega)) (jjl (znk h.len hl)) (jjl (znk h.len hh))
theorem MS.keyM {V : Nat} {ts : List T} {μu μm : Mp} (h : MS V ts μu μm) {f g t : T} (hf : f ∈ zbu ts) (hg : g ∈ zbu ts) (ht : t ∈ zbu ts) : zp5 Try.prog tM (k3V (num ts f) (num ts g) (num ts t)) :=
 jpy (jjl (znk h.len hf)) (jjl (znk h.len hg)) (jjl (znk h.len ht))
theorem MS.add {V : Nat} {ts : List T} {μu μm : Mp} (h : MS V ts μu μm) {t : T} (hk : t.Ok V 0) (ht : t.lf = false) (hn : t ∉ zbu ts) (hl : t.l ∈ zbu ts) (hh : t.h ∈ zbu ts) (hlen : ts.length < zeo) :
  MS V (ts ++ [t]) (zny (ndV (zjy ts t)) (vi (2 + ts.length)) μu) μm := by
 have hp : ts <+: ts ++ [t] := List.prefix_append _ _
 have hkey : zp5 Try.prog tU (ndV (zjy ts t)) := h.keyU (v := t.v) (hk.v_le h.V0) hl hh
 refine ⟨h.row.snoc hk hn hl hh, ⟨h.u.ok.put hkey, fun s hs => ?_, fun k u hg => ?_⟩, ⟨h.m.ok, fun k u hg => ?_⟩, by simp; omega, h.V0⟩
 ·classical
  rw [zf4 hkey.1 (by rfl)]
  rcases List.mem_append.1 hs with hs | hs
  ·have hsf : s ∈ zbu ts := List.mem_cons_of_mem _ (List.mem_cons_of_mem _ hs)
   rw [zwt h.row hp hsf, zdr hp hsf, if_neg fun e => hn (ji0 h.row hs ht hl hh (jda e) ▸ hsf)]
   exact h.u.get s hs
  ·rw [List.mem_singleton.1 hs, zp8 hn]
   unfold zjy
   rw [zeh hl, zeh hh, if_pos rfl]
 ·classical
  by_cases hk' : zjh k = true
  ·rw [zf4 hkey.1 hk'] at hg
   split at hg
   ·rename_i e
    refine ⟨t, by simp, ?_⟩
    rw [e]; unfold zjy
    rw [zeh hl, zeh hh]
   ·obtain ⟨s, hs, rfl⟩ := h.u.inv k u hg
    exact ⟨s, List.mem_append_left _ hs, by rw [zwt h.row hp (List.mem_cons_of_mem _ (List.mem_cons_of_mem _ hs))]⟩
  ·obtain ⟨n, hm⟩ := zkq hg
   exact absurd ((h.u.ok.put hkey).keys _ hm).1 hk'
 ·obtain ⟨f, g, q, r, a1, a2, a3, a4, rfl, rfl, a5⟩ := h.m.inv k u hg
  exact ⟨f, g, q, r, zg0 a1, zg0 a2, zg0 a3, zg0 a4, by rw [zeh a1, zeh a2, zeh a3], by rw [zeh a4], a5⟩
theorem MS.memo {V : Nat} {ts : List T} {μu μm : Mp} (h : MS V ts μu μm) {f g q t : T} (hf : f ∈ zbu ts) (hg : g ∈ zbu ts) (hq : q ∈ zbu ts) (ht : t ∈ zbu ts) (hi : Ite f g q t) :
  MS V ts μu (zny (k3V (num ts f) (num ts g) (num ts q)) (vi (num ts t)) μm) := by
 refine ⟨h.row, h.u, ⟨h.m.ok.put (h.keyM hf hg hq), fun k u hk => ?_⟩, h.len, h.V0⟩
 classical
 by_cases hk' : zjh k = true
 ·rw [zf4 (h.keyM hf hg hq).1 hk'] at hk
  split at hk
  ·rename_i e
   cases hk
   exact ⟨f, g, q, t, hf, hg, hq, ht, e, rfl, hi⟩
  ·exact h.m.inv k u hk
 ·obtain ⟨n, hm⟩ := zkq hk
  exact absurd ((h.m.ok.put (h.keyM hf hg hq)).keys _ hm).1 hk'
def zbh (n : Nat) : List AV := [.os 3 3 0 n, .om 1, .om 2]
def zbe (ts : List T) (μu μm : Mp) : zaq := [.cells (zbh (2 + ts.length)), mO μu, mO μm, .cells (avs ((jcc ts).flatMap ndC))]
def zcz (ts : List T) (μu μm : Mp) : D := .fp [.fs ((jcc ts).flatMap ndC) (2 + ts.length), mD μu, mD μm] 0
theorem mtU : mtB Try.prog KT tU = some (.int .i64 0) := by kernel_rfl
theorem mtM : mtB Try.prog KT tM = some (.int .i64 0) := by kernel_rfl
end Go.Proofs.Ytignimmnnccblaa

/- The manager's part and node. -/
set_option linter.unusedVariables false
set_option linter.unusedSimpArgs false
set_option maxRecDepth 100000
set_option maxHeartbeats 4000000
namespace Go.Proofs.Ytignimmnnccblaa
open Go Go.RowKit
theorem jgb : (((((type_of% @zgg) ∧ (type_of% @zgh)) ∧ ((type_of% @zj2) ∧ ((type_of% @zj3) ∧ (type_of% @zf5)))) ∧ (((type_of% @zf6) ∧ (type_of% @zf7)) ∧ ((type_of% @zga) ∧ ((type_of% @zgb) ∧ (type_of% @zhv))))) ∧ ((((type_of% @zhu) ∧ (type_of% @zez)) ∧ ((type_of% @ze0) ∧ ((type_of% @ze9) ∧ (type_of% @zfa)))) ∧ (((type_of% @zfc) ∧ (type_of% @zge)) ∧ ((type_of% @zgf) ∧ ((type_of% @zgc) ∧ (type_of% @zgd)))))) := ⟨⟨⟨⟨@zgg, @zgh⟩, ⟨@zj2, ⟨@zj3, @zf5⟩⟩⟩, ⟨⟨@zf6, @zf7⟩, ⟨@zga, ⟨@zgb, @zhv⟩⟩⟩⟩, ⟨⟨⟨@zhu, @zez⟩, ⟨@ze0, ⟨@ze9, @zfa⟩⟩⟩, ⟨⟨@zfc, @zge⟩, ⟨@zgf, ⟨@zgc, @zgd⟩⟩⟩⟩⟩
theorem zo8 (ts : List T) (μu μm : Mp) (f : T) (hf : f ∈ zbu ts) (hl : ts.length ≤ zeo) (v : Nat) (b : Bool) : zbf Try.prog 75 [zcz ts μu μm, iD (num ts f), iD v, oD b] (.d (iD (num ts (zhk f v b)))) := by
 refine zbi (fn := Try.f75) (by kernel_rfl) Try.func75 rfl (Nat.le_of_ble_eq_true rfl) fun c hc hp => ?_
 refine zbk (τ' := frL [(0, .d (zcz ts μu μm)), (1, .d (iD (num ts f))), (2, .d (iD v)), (3, .d (oD b))]) (by repeat (first | exact zal _ | refine zai ?_ (by first | rfl | (simp [r_f, zah, zae]; done) | simp [r_f, zah, zae, *]))) ?_
 refine zac hp zaj hc rfl fun K1 hK1 => ?_
 simp -dsimp -implicitDefEqProofs (disch := first | assumption | omega | (simp only [r_z, zah, zae] <;> omega) | decide) only [r_r, ↓reduceIte, Nat.reduceEqDiff, Nat.reduceAdd, D.fix, Int.reduceToNat, Nat.reduceMul, Nat.reduceBNe, Nat.reduceBEq, zcz]
 refine hK1 _ _ ?_
 have hn := zeg hf
 unfold zeo at hl
 refine zac hp zaj hc rfl fun K2 hK2 => ?_
 simp -dsimp -implicitDefEqProofs (disch := first | assumption | omega | (simp only [r_z, zah, zae] <;> omega) | decide) only [r_r, ↓reduceIte, Nat.reduceEqDiff, Nat.reduceAdd, D.fix, Int.reduceToNat, Nat.reduceMul, Nat.reduceBNe, Nat.reduceBEq, zcz, zxx, jkv, zi6 hf, ndC, zjy, jgb]
 refine hK2 _ _ ?_
 refine za1 ?_
 refine zac hp zaj hc rfl fun K3 hK3 => ?_
 simp -dsimp -implicitDefEqProofs (disch := first | assumption | omega | (simp only [r_z, zah, zae] <;> omega) | decide) only [r_r, ↓reduceIte, Nat.reduceEqDiff, Nat.reduceAdd, D.fix, Int.reduceToNat, Nat.reduceMul, Nat.reduceBNe, Nat.reduceBEq, zcz, jgb]
 refine hK3 _ _ ?_
 refine zap rfl (fun ht => ?_) (fun ht => ?_)
 ·have hne : f.v ≠ v := by simp at ht; omega
  refine zac hp zaj hc rfl fun K4 hK4 => ?_
  simp -dsimp -implicitDefEqProofs (disch := first | assumption | omega | (simp only [r_z, zah, zae] <;> omega) | decide) only [r_r, ↓reduceIte, Nat.reduceEqDiff, Nat.reduceAdd, D.fix, Int.reduceToNat, Nat.reduceMul, Nat.reduceBNe, Nat.reduceBEq, zcz]
  refine hK4 _ _ ?_
  refine za6 ?_
  show closeA _ _ = _
  simp (disch := first | assumption | omega | (simp only [r_z, zah, zae] <;> omega) | decide) only [r_c, Nat.reduceAdd, D.fix, ↓reduceIte, Nat.reduceEqDiff, zcz]
  simp [zhk, hne]
 ·have he : f.v = v := by simp at ht; omega
  refine zac hp zaj hc rfl fun K5 hK5 => ?_
  simp -dsimp -implicitDefEqProofs (disch := first | assumption | omega | (simp only [r_z, zah, zae] <;> omega) | decide) only [r_r, ↓reduceIte, Nat.reduceEqDiff, Nat.reduceAdd, D.fix, Int.reduceToNat, Nat.reduceMul, Nat.reduceBNe, Nat.reduceBEq, zcz]
  refine hK5 _ _ ?_
  refine zap rfl (fun ht => ?_) (fun ht => ?_)
  ·have hb : b = true := ht
   refine zac hp zaj hc rfl fun K6 hK6 => ?_
   simp -dsimp -implicitDefEqProofs (disch := first | assumption | omega | (simp only [r_z, zah, zae] <;> omega) | decide) only [r_r, ↓reduceIte, Nat.reduceEqDiff, Nat.reduceAdd, D.fix, Int.reduceToNat, Nat.reduceMul, Nat.reduceBNe, Nat.reduceBEq, zcz, jgb]
   refine hK6 _ _ ?_
   refine za6 ?_
   show closeA _ _ = _
   simp (disch := first | assumption | omega | (simp only [r_z, zah, zae] <;> omega) | decide) only [r_c, Nat.reduceAdd, D.fix, ↓reduceIte, Nat.reduceEqDiff, zcz]
   simp [zhk, he, hb]
  ·have hb : b = false := ht
   refine zac hp zaj hc rfl fun K7 hK7 => ?_
   simp -dsimp -implicitDefEqProofs (disch := first | assumption | omega | (simp only [r_z, zah, zae] <;> omega) | decide) only [r_r, ↓reduceIte, Nat.reduceEqDiff, Nat.reduceAdd, D.fix, Int.reduceToNat, Nat.reduceMul, Nat.reduceBNe, Nat.reduceBEq, zcz, jgb]
   refine hK7 _ _ ?_
   refine za6 ?_
   show closeA _ _ = _
   simp (disch := first | assumption | omega | (simp only [r_z, zah, zae] <;> omega) | decide) only [r_c, Nat.reduceAdd, D.fix, ↓reduceIte, Nat.reduceEqDiff, zcz]
   simp [zhk, he, hb]
end Go.Proofs.Ytignimmnnccblaa

/- The manager's node. -/
set_option linter.unusedVariables false
set_option linter.unusedSimpArgs false
set_option maxRecDepth 100000
set_option maxHeartbeats 4000000
namespace Go.Proofs.Ytignimmnnccblaa
open Go Go.RowKit
theorem zs4 : ((((((type_of% @ze9) ∧ (type_of% @zfa)) ∧ ((type_of% @zfc) ∧ (type_of% @zo6))) ∧ (((type_of% @zjd) ∧ (type_of% @zje)) ∧ ((type_of% @zjf) ∧ (type_of% @zga)))) ∧ ((((type_of% @zgb) ∧ (type_of% @zhv)) ∧ ((type_of% @zhu) ∧ (type_of% @zxh))) ∧ (((type_of% @zxi) ∧ (type_of% @zj2)) ∧ ((type_of% @zj3) ∧ (type_of% @zw8))))) ∧ (((((type_of% @zw9) ∧ (type_of% @zxa)) ∧ ((type_of% @zxb) ∧ (type_of% @zlz))) ∧ (((type_of% @zl0) ∧ (type_of% @zhq)) ∧ ((type_of% @zhr) ∧ (type_of% @zmn)))) ∧ ((((type_of% @zmo) ∧ (type_of% @zre)) ∧ ((type_of% @zgg) ∧ (type_of% @zgh))) ∧ (((type_of% @zf5) ∧ (type_of% @zf6)) ∧ ((type_of% @zf7) ∧ (type_of% @zjz)))))) := ⟨⟨⟨⟨⟨@ze9, @zfa⟩, ⟨@zfc, @zo6⟩⟩, ⟨⟨@zjd, @zje⟩, ⟨@zjf, @zga⟩⟩⟩, ⟨⟨⟨@zgb, @zhv⟩, ⟨@zhu, @zxh⟩⟩, ⟨⟨@zxi, @zj2⟩, ⟨@zj3, @zw8⟩⟩⟩⟩, ⟨⟨⟨⟨@zw9, @zxa⟩, ⟨@zxb, @zlz⟩⟩, ⟨⟨@zl0, @zhq⟩, ⟨@zhr, @zmn⟩⟩⟩, ⟨⟨⟨@zmo, @zre⟩, ⟨@zgg, @zgh⟩⟩, ⟨⟨@zf5, @zf6⟩, ⟨@zf7, @zjz⟩⟩⟩⟩⟩
theorem zis {a b c : Nat} : Value.agg #[.int .i64 (a : Int), .int .i64 (b : Int), .int .i64 (c : Int)] = k3V a b c := rfl
def jp0 (V : Nat) (ts : List T) (μm : Mp) (t : T) (x : AV) (S' : zaq) : Prop := ∃ ts' μu', S' = zbe ts' μu' μm ∧ x = .d (iD (num ts' t)) ∧ MS V ts' μu' μm ∧ ts <+: ts' ∧ ts'.length ≤ ts.length + 1 ∧ t ∈ zbu ts'
theorem jjn (V : Nat) (ts : List T) (μu μm : Mp) (hS : MS V ts μu μm) (v : Nat) (lo hi : T) (hv : v < V) (h1 : lo ∈ zbu ts) (h2 : hi ∈ zbu ts) (h3 : lo.Ok V (v + 1)) (h4 : hi.Ok V (v + 1)) (hlen : ts.length < zeo) : ScS Try.prog [0, 1, 2] 66 [.op 0 0, .d (iD v), .d (iD (num ts lo)), .d (iD (num ts hi))] (zbe ts μu μm) (jp0 V ts μm (mkT v lo hi)) := by
 refine zhe (fn := Try.f66) (by kernel_rfl) Try.func66 rfl (Nat.le_of_ble_eq_true rfl) fun c hc hp => ?_
 refine jbr ?_
 unfold zbe zbh
 have hl := hS.len
 have hV := hS.V0
 unfold zeo at hl hlen
 refine zac hp zaj hc rfl fun K1 hK1 => ?_
 simp -dsimp -implicitDefEqProofs (disch := first | assumption | omega | (simp only [r_z, zah, zae] <;> omega) | decide) only [r_r, ↓reduceIte, Nat.reduceEqDiff, Nat.reduceAdd, D.fix, Int.reduceToNat, Nat.reduceMul, Nat.reduceBNe, Nat.reduceBEq, r_m]
 refine hK1 _ _ ?_
 refine zan fun K2 hK2 => ?_
 refine zac hp zaj hc rfl fun K3 hK3 => ?_
 simp -dsimp -implicitDefEqProofs (disch := first | assumption | omega | (simp only [r_z, zah, zae] <;> omega) | decide) only [r_r, ↓reduceIte, Nat.reduceEqDiff, Nat.reduceAdd, D.fix, Int.reduceToNat, Nat.reduceMul, Nat.reduceBNe, Nat.reduceBEq, r_m, zs4]
 refine hK3 _ _ ?_
 refine zap rfl (fun ht => ?_) (fun ht => ?_)
 ·have he : lo = hi := zdb h1 h2 (by simp at ht; omega)
  refine zac hp zaj hc rfl fun K4 hK4 => ?_
  simp -dsimp -implicitDefEqProofs (disch := first | assumption | omega | (simp only [r_z, zah, zae] <;> omega) | decide) only [r_r, ↓reduceIte, Nat.reduceEqDiff, Nat.reduceAdd, D.fix, Int.reduceToNat, Nat.reduceMul, Nat.reduceBNe, Nat.reduceBEq, r_m]
  refine hK4 _ _ ?_
  refine zb3 hp (τ' := frL [(8, .d (iD (num ts lo)))]) (H' := zbe ts μu μm) ?_ ?_
  ·refine Rt.trans (Rt.gc (keep := [0,1,2,3]) (by decide) (by decide) (by simp [fzH, gcH])) ?_
   refine Rt.end (by repeat (first | exact zal _ | refine zai ?_ (by first | rfl | (simp [r_f, zah, zae]; done) | simp [r_f, zah, zae, *]))) ?_
   simp only [r_g, Nat.reduceAdd, ↓reduceIte, Nat.reduceEqDiff, r_m]; rfl
  refine za6 ?_
  refine zbs (t := 8) rfl ?_
  show ∃ _, _
  refine ⟨ts, μu, rfl, ?_, hS, List.prefix_refl _, by omega, ?_⟩
  ·simp [mkT, he, frL]
  ·simpa [mkT, he] using h2
 ·have hne : lo ≠ hi := fun e => by subst e; simp at ht
  have hmk : mkT v lo hi = .node v lo hi := if_neg hne
  have hok : (T.node v lo hi).Ok V 0 := ⟨Nat.zero_le _, hv, hne, h3, h4⟩
  have hk : zp5 Try.prog tU (k3V v (num ts lo) (num ts hi)) := hS.keyU (v := v) (by omega) h1 h2
  refine za0 (hK2 _ _ ?_)
  refine zac hp zaj hc rfl fun K5 hK5 => ?_
  simp -dsimp -implicitDefEqProofs (disch := first | assumption | omega | (simp only [r_z, zah, zae] <;> omega) | decide) only [r_r, ↓reduceIte, Nat.reduceEqDiff, Nat.reduceAdd, D.fix, Int.reduceToNat, Nat.reduceMul, Nat.reduceBNe, Nat.reduceBEq, r_m, zs4]
  refine hK5 _ _ ?_
  refine zbr zaj hc mixed rfl (q := 0) (by kernel_rfl) (by kernel_rfl) fun K6 hK6 => ?_
  by_cases hg : (T.node v lo hi ∈ zbu ts)
  ·have hin : T.node v lo hi ∈ ts := by simpa [zbu] using hg
   have hgm : zgy (k3V v (num ts lo) (num ts hi)) μu = some (vi (num ts (.node v lo hi))) := hS.u.get _ hin
   simp -dsimp -implicitDefEqProofs (disch := first | assumption | omega | (simp only [r_z, zah, zae] <;> omega) | decide) only [r_r, ↓reduceIte, Nat.reduceEqDiff, Nat.reduceAdd, D.fix, Int.reduceToNat, Nat.reduceMul, Nat.reduceBNe, Nat.reduceBEq, r_m, zis, zia, zsp mtU hk hS.u.ok, hgm, Option.getD_some, Option.getD_none, Option.isSome_some, Option.isSome_none, zs4]
   refine hK6 _ _ ?_
   refine zan fun K7 hK7 => ?_
   refine zac hp zaj hc rfl fun K8 hK8 => ?_
   simp -dsimp -implicitDefEqProofs (disch := first | assumption | omega | (simp only [r_z, zah, zae] <;> omega) | decide) only [r_r, ↓reduceIte, Nat.reduceEqDiff, Nat.reduceAdd, D.fix, Int.reduceToNat, Nat.reduceMul, Nat.reduceBNe, Nat.reduceBEq, r_m, zs4]
   refine hK8 _ _ ?_
   refine zap rfl (fun ht => ?_) (fun ht => ?_)
   ·cases ht
   ·refine za0 (hK7 _ _ ?_)
    refine zac hp zaj hc rfl fun K9 hK9 => ?_
    simp -dsimp -implicitDefEqProofs (disch := first | assumption | omega | (simp only [r_z, zah, zae] <;> omega) | decide) only [r_r, ↓reduceIte, Nat.reduceEqDiff, Nat.reduceAdd, D.fix, Int.reduceToNat, Nat.reduceMul, Nat.reduceBNe, Nat.reduceBEq, r_m]
    refine hK9 _ _ ?_
    refine zb3 hp (τ' := frL [(8, .d (iD (num ts (.node v lo hi))))]) (H' := zbe ts μu μm) ?_ ?_
    ·refine Rt.trans (Rt.gc (keep := [0,1,2,3]) (by decide) (by decide) (by simp [fzH, gcH])) ?_
     refine Rt.end (by repeat (first | exact zal _ | refine zai ?_ (by first | rfl | (simp [r_f, zah, zae]; done) | simp [r_f, zah, zae, *]))) ?_
     simp only [r_g, Nat.reduceAdd, ↓reduceIte, Nat.reduceEqDiff, r_m]; rfl
    refine za6 ?_
    refine zbs (t := 8) rfl ?_
    show ∃ _, _
    rw [← hmk] at hg ⊢
    exact ⟨ts, μu, rfl, rfl, hS, List.prefix_refl _, by omega, hg⟩
  ·have hgm : zgy (k3V v (num ts lo) (num ts hi)) μu = none := hS.u.none hS.row rfl hg h1 h2
   simp -dsimp -implicitDefEqProofs (disch := first | assumption | omega | (simp only [r_z, zah, zae] <;> omega) | decide) only [r_r, ↓reduceIte, Nat.reduceEqDiff, Nat.reduceAdd, D.fix, Int.reduceToNat, Nat.reduceMul, Nat.reduceBNe, Nat.reduceBEq, r_m, zis, zia, zsp mtU hk hS.u.ok, hgm, Option.getD_some, Option.getD_none, Option.isSome_some, Option.isSome_none, zs4]
   refine hK6 _ _ ?_
   refine zan fun K10 hK10 => ?_
   refine zac hp zaj hc rfl fun K11 hK11 => ?_
   simp -dsimp -implicitDefEqProofs (disch := first | assumption | omega | (simp only [r_z, zah, zae] <;> omega) | decide) only [r_r, ↓reduceIte, Nat.reduceEqDiff, Nat.reduceAdd, D.fix, Int.reduceToNat, Nat.reduceMul, Nat.reduceBNe, Nat.reduceBEq, r_m, zs4]
   refine hK11 _ _ ?_
   refine zap rfl (fun ht => ?_) (fun ht => ?_)
   ·refine zac hp zaj hc rfl fun K12 hK12 => ?_
    simp -dsimp -implicitDefEqProofs (disch := first | assumption | omega | (simp only [r_z, zah, zae] <;> omega) | decide) only [r_r, ↓reduceIte, Nat.reduceEqDiff, Nat.reduceAdd, D.fix, Int.reduceToNat, Nat.reduceMul, Nat.reduceBNe, Nat.reduceBEq, r_m, zs4]
    refine hK12 _ _ ?_
    refine zng zaj hp hc mixed rfl [(0, []), (1, []), (2, []), (3, []), (4, []), (5, []), (6, []), (7, []), (8, []), (9, []), (10, []), (11, []), (12, []), (13, [3, 4]), (14, []), (15, []), (16, []), (17, []), (18, []), (19, [])] [[], [0], [0, 1], [0, 1, 2], [], [], [], [], [7], [7, 8], [7, 8, 9], [], [11], [7, 8, 9, 10, 11, 12], [0, 1, 2, 3, 4, 7, 8, 9, 10, 11, 12, 13], [0, 1, 2, 3, 4, 7, 8, 9, 10, 11, 12, 13, 14], [0, 1, 2, 3, 4, 6, 7, 8, 9, 10, 11, 12, 13, 14, 15], [0, 1, 2, 3, 4, 5, 6, 7, 8, 9, 10, 11, 12, 13, 14, 15, 16], [0, 1, 2, 3, 4, 5, 6, 7, 8, 9, 10, 11, 12, 13, 14, 15, 16, 17], [0, 1, 2, 3, 4, 5, 6, 7, 8, 9, 10, 11, 12, 13, 14, 15, 16, 17, 18]] 1 (by kernel_rfl) fun K13 hK13 => ?_
    simp -dsimp -implicitDefEqProofs (disch := first | assumption | omega | (simp only [r_z, zah, zae] <;> omega) | decide) only [r_r, ↓reduceIte, Nat.reduceEqDiff, Nat.reduceAdd, D.fix, Int.reduceToNat, Nat.reduceMul, Nat.reduceBNe, Nat.reduceBEq, r_w, r_m, zis, jr7 mtU hk hS.u.ok hgm, jr8 hS.u.ok hk.1 hgm, zs4]
    refine hK13 _ _ (hK10 _ _ ?_)
    refine zac hp zaj hc rfl fun K14 hK14 => ?_
    simp -dsimp -implicitDefEqProofs (disch := first | assumption | omega | (simp only [r_z, zah, zae] <;> omega) | decide) only [r_r, ↓reduceIte, Nat.reduceEqDiff, Nat.reduceAdd, D.fix, Int.reduceToNat, Nat.reduceMul, Nat.reduceBNe, Nat.reduceBEq, r_m]
    refine hK14 _ _ ?_
    refine zb3 hp (τ' := frL [(8, .d (iD (2 + ts.length)))]) (H' := zbe (ts ++ [.node v lo hi]) (zny (ndV (zjy ts (.node v lo hi))) (vi (2 + ts.length)) μu) μm) ?_ ?_
    ·refine Rt.trans (Rt.gc (keep := [0,1,2,6]) (by decide) (by decide) (by simp [fzH, gcH])) ?_
     refine Rt.end (by repeat (first | exact zal _ | refine zai ?_ (by first | rfl | (simp [r_f, zah, zae]; done) | simp [r_f, zah, zae, *]))) ?_
     simp only [r_g, Nat.reduceAdd, ↓reduceIte, Nat.reduceEqDiff]; unfold zbe zbh; rw [jcd (t := .node v lo hi) hS.row h1 h2]; simp [ndC, zjy, ndV, T.v, T.l, T.h, vi, iD, avs, Nat.add_assoc]
    refine za6 ?_
    refine zbs (t := 8) rfl ?_
    show ∃ _, _
    have hnew : num (ts ++ [.node v lo hi]) (.node v lo hi) = 2 + ts.length := zp8 hg
    refine ⟨ts ++ [.node v lo hi], _, rfl, ?_, hS.add (t := .node v lo hi) hok rfl hg h1 h2 (by unfold zeo; omega), List.prefix_append _ _, by simp, ?_⟩
    ·rw [hmk, hnew]; rfl
    ·rw [hmk, zfh]; simp
   ·cases ht
end Go.Proofs.Ytignimmnnccblaa
