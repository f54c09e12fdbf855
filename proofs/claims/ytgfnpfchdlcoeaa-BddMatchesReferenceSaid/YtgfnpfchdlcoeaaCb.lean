/- The manager's tables in memory; keys of its maps. -/
import Derived.Test.YtgfnpfchdlcoeaaBa
import Derived.Test.YtgfnpfchdlcoeaaTy
import Derived.Test.YtgfnpfchdlcoeaaQr
import Derived.Test.YtgfnpfchdlcoeaaQ
set_option linter.unusedVariables false
set_option linter.unusedSimpArgs false
namespace Go.Proofs.Ytgfnpfchdlcoeaa
open Go Go.RowKit
theorem jto {n : Int} (h : I64 n) : (Lit.int .i64 n).wf = true := by
 obtain ⟨h1, h2⟩ := h
 simp [Lit.wf]; exact ⟨h1, by omega⟩
section
variable {P : Program}
theorem zsn {e : TypeId} (hu : P.underlying e = some (.int .i64)) {n : Int} (hn : I64 n) (d : Nat) : P.keyLits (d + 1) e [.int .i64 n] = some [.int .i64 n] := by
 simp [Program.keyLits, hu, jto hn]
theorem je8 {n : Nat} (h : Nat.ble 1 n = true) : ∃ d, n = d + 1 := ⟨n - 1, by have := Nat.le_of_ble_eq_true h; omega⟩
end
theorem jjk {a b c : Int} (ha : I64 a) (hb : I64 b) (hc : I64 c) : zqy Try.prog 137 (.agg #[.int .i64 a, .int .i64 b, .int .i64 c]) := by
 refine ⟨rfl, fun kt et hm => ?_⟩
 have h0 : zh9 Try.prog 137 = some (83, 3) := by kernel_rfl
 rw [h0] at hm; cases hm
 obtain ⟨d, hd⟩ : ∃ d, Try.prog.types.size = d + 1 := je8 (by kernel_rfl)
 have h1 : Try.prog.keyType 83 = true := by kernel_rfl
 have h2 : Try.prog.cellsOf 83 = 3 := by kernel_rfl
 have h3 : Try.prog.cellsOf 3 = 1 := by kernel_rfl
 unfold keyOf
 rw [Try.underlying83]
 have h4 : Value.formed Try.prog 83 (.agg #[.int .i64 a, .int .i64 b, .int .i64 c]) = true := by
  unfold Value.formed
  simp only [Try.underlying83, h2]; rfl
 simp only [h1, h4, Bool.and_self, if_true, hd]
 unfold Program.keyLits
 simp only [Try.underlying83, h2, h3, Value.cells, List.mapM_cons, List.mapM_nil, List.drop_zero, List.drop_succ_cons, List.take_succ_cons, List.take_zero, zsn Try.underlying3 ha, zsn Try.underlying3 hb, zsn Try.underlying3 hc]
 rw [if_pos ⟨rfl, by first | rfl | decide | simp⟩]; rfl
theorem jou {a b c : Int} (ha : I64 a) (hb : I64 b) (hc : I64 c) : zqy Try.prog 138 (.agg #[.int .i64 a, .int .i64 b, .int .i64 c]) := by
 refine ⟨rfl, fun kt et hm => ?_⟩
 have h0 : zh9 Try.prog 138 = some (154, 3) := by kernel_rfl
 rw [h0] at hm; cases hm
 obtain ⟨d, hd⟩ : ∃ d, Try.prog.types.size = d + 1 := je8 (by kernel_rfl)
 have h1 : Try.prog.keyType 154 = true := by kernel_rfl
 have h2 : Try.prog.cellsOf 154 = 3 := by kernel_rfl
 have h3 : Try.prog.cellsOf 3 = 1 := by kernel_rfl
 unfold keyOf
 rw [Try.underlying154]
 have h4 : Value.formed Try.prog 154 (.agg #[.int .i64 a, .int .i64 b, .int .i64 c]) = true := by
  unfold Value.formed
  simp only [Try.underlying154, h2]; rfl
 simp only [h1, h4, Bool.and_self, if_true, hd]
 unfold Program.keyLits
 have h5 : List.range 3 = [0, 1, 2] := rfl
 simp only [Try.underlying154, h2, h3, h5, Value.cells, List.mapM_cons, List.mapM_nil, Nat.zero_mul, Nat.one_mul, Nat.mul_one, List.drop_zero, List.drop_succ_cons, List.take_succ_cons, List.take_zero, zsn Try.underlying3 ha, zsn Try.underlying3 hb, zsn Try.underlying3 hc]
 rfl
theorem jrl {t et : TypeId} (h0 : zh9 Try.prog t = some (3, et)) {a : Int} (ha : I64 a) : zqy Try.prog t (.int .i64 a) := by
 refine ⟨rfl, fun kt et' hm => ?_⟩
 rw [h0] at hm; cases hm
 exact zl6 Try.underlying3 ha
theorem jjl {n : Nat} (h : n ≤ 4000000000) : I64 (n : Int) := ⟨by omega, by omega⟩
def ndC (n : Nd) : List D := [iD n.v, iD n.lo, iD n.hi]
def vi (n : Nat) : Value := .int .i64 n
def k3V (a b c : Nat) : Value := .agg #[vi a, vi b, vi c]
def ndV (n : Nd) : Value := k3V n.v n.lo n.hi
theorem jov (n : Nd) : (ndC n).length = 3 := rfl
section
variable {l : List Nd} {k : Nat}
theorem zme (h : k < l.length) : zc9 (l.flatMap ndC) (k * 3) 3 = some (ndC (nth l k)) := zg9 jov h
theorem jow (h : k < l.length) : (l.flatMap ndC)[k * 3]? = some (iD (nth l k).v) := (zf3 (j := 0) jov h (by omega)).trans rfl
theorem jtp (h : k < l.length) : (l.flatMap ndC)[k * 3 + 1]? = some (iD (nth l k).lo) := (zf3 (j := 1) jov h (by omega)).trans rfl
theorem jtq (h : k < l.length) : (l.flatMap ndC)[k * 3 + 2]? = some (iD (nth l k).hi) := (zf3 (j := 2) jov h (by omega)).trans rfl
theorem zbq : (l.flatMap ndC).length = l.length * 3 := zez jov l
theorem zmf (l : List Nd) : (l.flatMap ndC).map D.fix = l.flatMap ndC := zl5 (fun _ => rfl) l
end
theorem zso {a b : Nat} (h : vi a = vi b) : a = b := by
 unfold vi at h; injection h with _ h; omega
theorem jjm {a b c a' b' c' : Nat} (h : k3V a b c = k3V a' b' c') : a = a' ∧ b = b' ∧ c = c' := by
 unfold k3V at h
 injection h with h
 have h' := congrArg Array.toList h
 simp only [List.cons.injEq, and_true] at h'
 exact ⟨zso h'.1, zso h'.2.1, zso h'.2.2⟩
theorem je9 {m n : Nd} (h : ndV m = ndV n) : m = n := by
 obtain ⟨h1, h2, h3⟩ := jjm h
 cases m; cases n; simp_all
theorem jox {a b c : Nat} : zjz (k3V a b c) = true := rfl
abbrev tU : TypeId := 137
abbrev tM : TypeId := 138
def zed : Nat := 100000000
structure UOk (ts : List T) (μ : Mp) : Prop where
 ok : OkM Try.prog tU μ
 get : ∀ t ∈ ts, zig (ndV (zhz ts t)) μ = some (vi (num ts t))
 inv : ∀ k u, zig k μ = some u → ∃ t ∈ ts, k = ndV (zhz ts t)
structure MOk (ts : List T) (μ : Mp) : Prop where
 ok : OkM Try.prog tM μ
 inv : ∀ k u, zig k μ = some u → ∃ f g h t, f ∈ zbn ts ∧ g ∈ zbn ts ∧ h ∈ zbn ts ∧ t ∈ zbn ts ∧ k = k3V (num ts f) (num ts g) (num ts h) ∧ u = vi (num ts t) ∧ Ite f g h t
structure MS (V : Nat) (ts : List T) (μu μm : Mp) : Prop where
 row : RowOk V ts
 u : UOk ts μu
 m : MOk ts μm
 len : ts.length ≤ zed
 V0 : V ≤ 900
theorem UOk.none {V : Nat} {ts : List T} {μ : Mp} (h : UOk ts μ) (hr : RowOk V ts) {t : T} (ht : t.lf = false) (hn : t ∉ zbn ts) (hl : t.l ∈ zbn ts) (hh : t.h ∈ zbn ts) : zig (ndV (zhz ts t)) μ = none := by
 cases hg : zig (ndV (zhz ts t)) μ with
 | none => rfl
 | some u =>
  obtain ⟨s, hs, he⟩ := h.inv _ _ hg
  have := jji hr hs ht hl hh (je9 he).symm
  exact absurd (List.mem_cons_of_mem _ (List.mem_cons_of_mem _ (this ▸ hs))) hn
theorem zla {ts : List T} (h : ts.length ≤ zed) {t : T} (ht : t ∈ zbn ts) : num ts t ≤ 4000000000 := by
 have := zdn ht; unfold zed at h; omega
theorem T.Ok.v_le {V k : Nat} {t : T} (h : t.Ok V k) (hV : V ≤ 900) : t.v ≤ 1000 := by
 cases t with
 | leaf b => exact Nat.le_refl _
 | node v l r => have := h.2.1; show v ≤ 1000; omega
theorem MS.keyU {V : Nat} {ts : List T} {μu μm : Mp} (h : MS V ts μu μm) {v : Nat} (hv : v ≤ 1000) {lo hi : T} (hl : lo ∈ zbn ts) (hh : hi ∈ zbn ts) : zqy Try.prog tU (ndV ⟨v, num ts lo, num ts hi⟩) :=
 jjk (jjl (n := v) (by omega)) (jjl (zla h.len hl)) (jjl (zla h.len hh))
theorem MS.keyM {V : Nat} {ts : List T} {μu μm : Mp} (h : MS V ts μu μm) {f g t : T} (hf : f ∈ zbn ts) (hg : g ∈ zbn ts) (ht : t ∈ zbn ts) : zqy Try.prog tM (k3V (num ts f) (num ts g) (num ts t)) :=
 jou (jjl (zla h.len hf)) (jjl (zla h.len hg)) (jjl (zla h.len ht))
theorem MS.add {V : Nat} {ts : List T} {μu μm : Mp} (h : MS V ts μu μm) {t : T} (hk : t.Ok V 0) (ht : t.lf = false) (hn : t ∉ zbn ts) (hl : t.l ∈ zbn ts) (hh : t.h ∈ zbn ts) (hlen : ts.length < zed) :
  MS V (ts ++ [t]) (zpm (ndV (zhz ts t)) (vi (2 + ts.length)) μu) μm := by
 have hp : ts <+: ts ++ [t] := List.prefix_append _ _
 have hkey : zqy Try.prog tU (ndV (zhz ts t)) := h.keyU (v := t.v) (hk.v_le h.V0) hl hh
 refine ⟨h.row.snoc hk hn hl hh, ⟨h.u.ok.put hkey, fun s hs => ?_, fun k u hg => ?_⟩, ⟨h.m.ok, fun k u hg => ?_⟩, by simp; omega, h.V0⟩
 ·classical
  rw [zha hkey.1 (by rfl)]
  rcases List.mem_append.1 hs with hs | hs
  ·have hsf : s ∈ zbn ts := List.mem_cons_of_mem _ (List.mem_cons_of_mem _ hs)
   rw [zza h.row hp hsf, zd9 hp hsf, if_neg fun e => hn (jji h.row hs ht hl hh (je9 e) ▸ hsf)]
   exact h.u.get s hs
  ·rw [List.mem_singleton.1 hs, zpp hn]
   unfold zhz
   rw [zfl hl, zfl hh, if_pos rfl]
 ·classical
  by_cases hk' : zjz k = true
  ·rw [zha hkey.1 hk'] at hg
   split at hg
   ·rename_i e
    refine ⟨t, by simp, ?_⟩
    rw [e]; unfold zhz
    rw [zfl hl, zfl hh]
   ·obtain ⟨s, hs, rfl⟩ := h.u.inv k u hg
    exact ⟨s, List.mem_append_left _ hs, by rw [zza h.row hp (List.mem_cons_of_mem _ (List.mem_cons_of_mem _ hs))]⟩
  ·obtain ⟨n, hm⟩ := zl9 hg
   exact absurd ((h.u.ok.put hkey).keys _ hm).1 hk'
 ·obtain ⟨f, g, q, r, a1, a2, a3, a4, rfl, rfl, a5⟩ := h.m.inv k u hg
  exact ⟨f, g, q, r, zhy a1, zhy a2, zhy a3, zhy a4, by rw [zfl a1, zfl a2, zfl a3], by rw [zfl a4], a5⟩
theorem MS.memo {V : Nat} {ts : List T} {μu μm : Mp} (h : MS V ts μu μm) {f g q t : T} (hf : f ∈ zbn ts) (hg : g ∈ zbn ts) (hq : q ∈ zbn ts) (ht : t ∈ zbn ts) (hi : Ite f g q t) :
  MS V ts μu (zpm (k3V (num ts f) (num ts g) (num ts q)) (vi (num ts t)) μm) := by
 refine ⟨h.row, h.u, ⟨h.m.ok.put (h.keyM hf hg hq), fun k u hk => ?_⟩, h.len, h.V0⟩
 classical
 by_cases hk' : zjz k = true
 ·rw [zha (h.keyM hf hg hq).1 hk'] at hk
  split at hk
  ·rename_i e
   cases hk
   exact ⟨f, g, q, t, hf, hg, hq, ht, e, rfl, hi⟩
  ·exact h.m.inv k u hk
 ·obtain ⟨n, hm⟩ := zl9 hk
  exact absurd ((h.m.ok.put (h.keyM hf hg hq)).keys _ hm).1 hk'
def zb8 (n : Nat) : List AV := [.os 3 3 0 n, .om 1, .om 2]
def zbu (ts : List T) (μu μm : Mp) : zal := [.cells (zb8 (2 + ts.length)), mO μu, mO μm, .cells (avs ((jen ts).flatMap ndC))]
def zi6 (ts : List T) (μu μm : Mp) : D := .fp [.fs ((jen ts).flatMap ndC) (2 + ts.length), mD μu, mD μm] 0
theorem mtU : mtB Try.prog KT tU = some (.int .i64 0) := by kernel_rfl
theorem mtM : mtB Try.prog KT tM = some (.int .i64 0) := by kernel_rfl
end Go.Proofs.Ytgfnpfchdlcoeaa

/- The manager's part and node. -/
set_option linter.unusedVariables false
set_option linter.unusedSimpArgs false
set_option maxRecDepth 100000
set_option maxHeartbeats 4000000
namespace Go.Proofs.Ytgfnpfchdlcoeaa
open Go Go.RowKit
theorem zsp (ts : List T) (μu μm : Mp) (f : T) (hf : f ∈ zbn ts) (hl : ts.length ≤ zed) (v : Nat) (b : Bool) : zbi Try.prog 95 [zi6 ts μu μm, iD (num ts f), iD v, oD b] (.d (iD (num ts (zil f v b)))) := by
 refine za8 (fn := Try.f95) (by kernel_rfl) Try.func95 rfl (Nat.le_of_ble_eq_true rfl) fun c hc hp => ?_
 refine zba (τ' := frL [(0, .d (zi6 ts μu μm)), (1, .d (iD (num ts f))), (2, .d (iD v)), (3, .d (oD b))]) (zaa (zaa (zaa (zaa (zae _) rfl) rfl) rfl) rfl) ?_
 refine zab hp zad hc rfl fun K1 hK1 => ?_
 simp -dsimp -implicitDefEqProofs (disch := first | omega | decide) only [q_r, iD, oD, zi6]
 refine hK1 _ _ ?_
 have hn := zdn hf
 unfold zed at hl
 refine zab hp zad hc rfl fun K2 hK2 => ?_
 simp -dsimp -implicitDefEqProofs (disch := first | assumption | omega | (simp [maxLen, zah, zca, zbq] <;> omega) | decide) only [q_r, zau, zam, zac, ixO, zai, zb0, za6, zdy, ↓reduceIte, D.one, Value.oneCell', Int.toNat_natCast, Nat.reduceEqDiff, iD, Nat.reduceAdd, zau, zme, zky hf, ndC, zhz, zmd, zcj, zck, zcm, zgn, zg4, znu]
 refine hK2 _ _ ?_
 refine zaq ?_
 refine zab hp zad hc rfl fun K3 hK3 => ?_
 simp -dsimp -implicitDefEqProofs (disch := first | omega | decide) only [q_r, zam, zac, ↓reduceIte, Nat.reduceEqDiff, zb4, zci, zcn]
 refine hK3 _ _ ?_
 refine zag rfl (fun ht => ?_) (fun ht => ?_)
 ·have hne : f.v ≠ v := by simp at ht; omega
  refine zab hp zad hc rfl fun K4 hK4 => ?_
  simp -dsimp -implicitDefEqProofs (disch := first | omega | decide) only [q_r, ↓reduceIte, Nat.reduceEqDiff]
  refine hK4 _ _ ?_
  refine zao ?_
  show zaj _ _ = _
  simp (disch := first | omega | decide) only [zaj, zct, za1, Nat.zero_add, D.fix, zat, ↓reduceIte, Option.map_some, List.length_cons, List.length_nil, iD]
  simp [zil, hne]
 ·have he : f.v = v := by simp at ht; omega
  refine zab hp zad hc rfl fun K5 hK5 => ?_
  simp -dsimp -implicitDefEqProofs (disch := first | omega | decide) only [q_r, ↓reduceIte, Nat.reduceEqDiff]
  refine hK5 _ _ ?_
  refine zag rfl (fun ht => ?_) (fun ht => ?_)
  ·have hb : b = true := ht
   refine zab hp zad hc rfl fun K6 hK6 => ?_
   simp -dsimp -implicitDefEqProofs (disch := first | omega | decide) only [q_r, zam, zac, ↓reduceIte, Nat.reduceEqDiff, zdd, zci, zcn]
   refine hK6 _ _ ?_
   refine zao ?_
   show zaj _ _ = _
   simp (disch := first | omega | decide) only [zaj, zct, za1, Nat.zero_add, D.fix, zat, ↓reduceIte, Option.map_some, List.length_cons, List.length_nil, iD]
   simp [zil, he, hb]
  ·have hb : b = false := ht
   refine zab hp zad hc rfl fun K7 hK7 => ?_
   simp -dsimp -implicitDefEqProofs (disch := first | omega | decide) only [q_r, zam, zac, ↓reduceIte, Nat.reduceEqDiff, zco, zci, zcn]
   refine hK7 _ _ ?_
   refine zao ?_
   show zaj _ _ = _
   simp (disch := first | omega | decide) only [zaj, zct, za1, Nat.zero_add, D.fix, zat, ↓reduceIte, Option.map_some, List.length_cons, List.length_nil, iD]
   simp [zil, he, hb]
end Go.Proofs.Ytgfnpfchdlcoeaa

/- The manager's node. -/
set_option linter.unusedVariables false
set_option linter.unusedSimpArgs false
set_option maxRecDepth 100000
set_option maxHeartbeats 4000000
namespace Go.Proofs.Ytgfnpfchdlcoeaa
open Go Go.RowKit
theorem zlq {a b c : Nat} : Value.agg #[.int .i64 (a : Int), .int .i64 (b : Int), .int .i64 (c : Int)] = k3V a b c := rfl
def joy (V : Nat) (ts : List T) (μm : Mp) (t : T) (x : AV) (S' : zal) : Prop := ∃ ts' μu', S' = zbu ts' μu' μm ∧ x = .d (iD (num ts' t)) ∧ MS V ts' μu' μm ∧ ts <+: ts' ∧ ts'.length ≤ ts.length + 1 ∧ t ∈ zbn ts'
theorem jjn (V : Nat) (ts : List T) (μu μm : Mp) (hS : MS V ts μu μm) (v : Nat) (lo hi : T) (hv : v < V) (h1 : lo ∈ zbn ts) (h2 : hi ∈ zbn ts) (h3 : lo.Ok V (v + 1)) (h4 : hi.Ok V (v + 1)) (hlen : ts.length < zed) : ScS Try.prog [0, 1, 2] 61 [.op 0 0, .d (iD v), .d (iD (num ts lo)), .d (iD (num ts hi))] (zbu ts μu μm) (joy V ts μm (mkT v lo hi)) := by
 refine zlj (fn := Try.f61) (by kernel_rfl) Try.func61 rfl (Nat.le_of_ble_eq_true rfl) fun c hc hp => ?_
 refine jd1 ?_
 unfold zbu zb8
 have hl := hS.len
 have hV := hS.V0
 unfold zed at hl hlen
 refine zab hp zad hc rfl fun K1 hK1 => ?_
 simp -dsimp -implicitDefEqProofs (disch := first | omega | decide) only [q_r, iD]
 refine hK1 _ _ ?_
 refine zaf fun K2 hK2 => ?_
 refine zab hp zad hc rfl fun K3 hK3 => ?_
 simp -dsimp -implicitDefEqProofs (disch := first | omega | decide) only [q_r, ↓reduceIte, Nat.reduceEqDiff]
 refine hK3 _ _ ?_
 refine zag rfl (fun ht => ?_) (fun ht => ?_)
 ·have he : lo = hi := zd8 h1 h2 (by simp at ht; omega)
  refine zab hp zad hc rfl fun K4 hK4 => ?_
  simp -dsimp -implicitDefEqProofs (disch := first | omega | decide) only [q_r, ↓reduceIte, Nat.reduceEqDiff]
  refine hK4 _ _ ?_
  refine zbx hp (τ' := frL [(8, .d (iD (num ts lo)))]) (H' := zbu ts μu μm) ?_ ?_
  ·refine Rt.trans (Rt.gc (keep := [0,1,2,3]) (by decide) (by decide) (by simp [])) ?_
   refine Rt.end (zaa (zae _) rfl) ?_
   simp only [gcH, zbb, zcq, zap, zcb, gcV, Nat.reduceAdd, zcp, List.map_cons, List.map_nil, List.getD_cons_zero, List.getD_cons_succ, ↓reduceIte, Nat.reduceEqDiff, Option.map_some, zcq]; rfl
  refine zao ?_
  refine zb3 (t := 8) rfl ?_
  show ∃ _, _
  refine ⟨ts, μu, rfl, ?_, hS, List.prefix_refl _, by omega, ?_⟩
  ·simp [mkT, he, frL]
  ·simpa [mkT, he] using h2
 ·have hne : lo ≠ hi := fun e => by subst e; simp at ht
  have hmk : mkT v lo hi = .node v lo hi := if_neg hne
  have hok : (T.node v lo hi).Ok V 0 := ⟨Nat.zero_le _, hv, hne, h3, h4⟩
  have hk : zqy Try.prog tU (k3V v (num ts lo) (num ts hi)) := hS.keyU (v := v) (by omega) h1 h2
  refine zan (hK2 _ _ ?_)
  refine zab hp zad hc rfl fun K5 hK5 => ?_
  simp -dsimp -implicitDefEqProofs (disch := first | omega | decide) only [q_r, zau, zb7, zb0, za6, ↓reduceIte, AV.one, D.one, Value.oneCell', Nat.reduceEqDiff, Nat.reduceAdd, zau, jb9, znv, zpw, zpx, zgn, znu, jb8]
  refine hK5 _ _ ?_
  refine zbo zad hc mixed rfl (q := 0) (by kernel_rfl) (by kernel_rfl) fun K6 hK6 => ?_
  by_cases hg : (T.node v lo hi ∈ zbn ts)
  ·have hin : T.node v lo hi ∈ ts := by simpa [zbn] using hg
   have hgm : zig (k3V v (num ts lo) (num ts hi)) μu = some (vi (num ts (.node v lo hi))) := hS.u.get _ hin
   simp -dsimp -implicitDefEqProofs (disch := first | omega | decide) only [q_r, zam, zac, zdy, ↓reduceIte, List.append_nil, List.replicate_zero, Nat.reduceEqDiff, killAll, Nat.reduceAdd, zgf, zhw, zdv, zcy, zlq, zhv, zvr mtU hk hS.u.ok, hgm, Option.getD_some, Option.isSome_some, zt2, je5, je6, zgn, zg4]
   refine hK6 _ _ ?_
   refine zaf fun K7 hK7 => ?_
   refine zab hp zad hc rfl fun K8 hK8 => ?_
   simp -dsimp -implicitDefEqProofs (disch := first | omega | decide) only [q_r, ↓reduceIte]
   refine hK8 _ _ ?_
   refine zag rfl (fun ht => ?_) (fun ht => ?_)
   ·cases ht
   ·refine zan (hK7 _ _ ?_)
    refine zab hp zad hc rfl fun K9 hK9 => ?_
    simp -dsimp -implicitDefEqProofs (disch := first | omega | decide) only [q_r, ↓reduceIte, Nat.reduceEqDiff]
    refine hK9 _ _ ?_
    refine zbx hp (τ' := frL [(8, .d (iD (num ts (.node v lo hi))))]) (H' := zbu ts μu μm) ?_ ?_
    ·refine Rt.trans (Rt.gc (keep := [0,1,2,3]) (by decide) (by decide) (by simp [])) ?_
     refine Rt.end (zaa (zae _) rfl) ?_
     simp only [gcH, zbb, zcq, zap, zcb, gcV, Nat.reduceAdd, zcp, List.map_cons, List.map_nil, List.getD_cons_zero, List.getD_cons_succ, ↓reduceIte, Nat.reduceEqDiff, Option.map_some, zcq]; rfl
    refine zao ?_
    refine zb3 (t := 8) rfl ?_
    show ∃ _, _
    rw [← hmk] at hg ⊢
    exact ⟨ts, μu, rfl, rfl, hS, List.prefix_refl _, by omega, hg⟩
  ·have hgm : zig (k3V v (num ts lo) (num ts hi)) μu = none := hS.u.none hS.row rfl hg h1 h2
   simp -dsimp -implicitDefEqProofs (disch := first | omega | decide) only [q_r, zam, zac, zdy, ↓reduceIte, List.append_nil, List.replicate_zero, Nat.reduceEqDiff, killAll, Nat.reduceAdd, zgf, zhw, zdv, zcy, zlq, zhv, zvr mtU hk hS.u.ok, hgm, Option.getD_none, Option.isSome_none, zt2, je5, je6, zgn, zg4]
   refine hK6 _ _ ?_
   refine zaf fun K10 hK10 => ?_
   refine zab hp zad hc rfl fun K11 hK11 => ?_
   simp -dsimp -implicitDefEqProofs (disch := first | omega | decide) only [q_r, ↓reduceIte]
   refine hK11 _ _ ?_
   refine zag rfl (fun ht => ?_) (fun ht => ?_)
   ·refine zab hp zad hc rfl fun K12 hK12 => ?_
    simp -dsimp -implicitDefEqProofs (disch := first | omega | decide) only [q_r, zam, zac, zc1, zar, zdy, ↓reduceIte, Nat.reduceEqDiff, Nat.reduceAdd, zmd, zcj, zck, zcm]
    refine hK12 _ _ ?_
    refine zl8 zad hp hc mixed rfl [(0, []), (1, []), (2, []), (3, []), (4, []), (5, []), (6, []), (7, []), (8, []), (9, []), (10, []), (11, []), (12, []), (13, [3, 4]), (14, []), (15, []), (16, []), (17, []), (18, []), (19, [])] [[], [0], [0, 1], [0, 1, 2], [], [], [], [], [7], [7, 8], [7, 8, 9], [], [11], [7, 8, 9, 10, 11, 12], [0, 1, 2, 3, 4, 7, 8, 9, 10, 11, 12, 13], [0, 1, 2, 3, 4, 7, 8, 9, 10, 11, 12, 13, 14], [0, 1, 2, 3, 4, 6, 7, 8, 9, 10, 11, 12, 13, 14, 15], [0, 1, 2, 3, 4, 5, 6, 7, 8, 9, 10, 11, 12, 13, 14, 15, 16], [0, 1, 2, 3, 4, 5, 6, 7, 8, 9, 10, 11, 12, 13, 14, 15, 16, 17], [0, 1, 2, 3, 4, 5, 6, 7, 8, 9, 10, 11, 12, 13, 14, 15, 16, 17, 18]] 1 (by kernel_rfl) fun K13 hK13 => ?_
    simp -dsimp -implicitDefEqProofs (disch := first | assumption | omega | (simp only [maxLen, List.length_replicate, eq_self, true_and, and_true, and_self, zah, List.length_map, List.length_append, List.length_cons, List.length_nil, List.length_set, List.length_range, List.length_take, List.length_drop, zca, zbq] <;> omega) | decide | fail) only [q_r, zau, Option.map_some, zam, zac, zb0, zc6, zic, za6, zdy, ↓reduceIte, Bool.false_eq_true, eq_self, zat, zcw, zdo, zb2, List.map_cons, List.map_nil, List.length_cons, List.length_nil, List.getElem?_cons_zero, List.getElem?_cons_succ, List.cons_append, List.nil_append, List.append_nil, List.set_cons_zero, List.set_cons_succ, List.replicate_zero, List.replicate_succ, List.all_cons, List.all_nil, zdg, zfh, zdh, zcx, AV.one, D.one, Value.oneCell', Bool.and_self, and_true, true_and, Nat.zero_add, Nat.add_zero, Nat.reduceEqDiff, shB, zqn, List.drop_zero, Nat.reduceAdd, List.nil_append, zau, zc6, zpe, zll, Nat.zero_mul, Nat.reduceMul, List.flatten_cons, List.flatten_nil, List.getD_cons_zero, List.getD_cons_succ, zow, zy5, zox, zy6, zhw, zdv, zcy, zlq, jq5 mtU hk hS.u.ok hgm, jq6 hS.u.ok hk.1 hgm, zt2, je5, je6, zgn, zg4, zmd, zcj, zck, jb2]
    refine hK13 _ _ (hK10 _ _ ?_)
    refine zab hp zad hc rfl fun K14 hK14 => ?_
    simp -dsimp -implicitDefEqProofs (disch := first | omega | decide) only [q_r, ↓reduceIte, Nat.reduceEqDiff]
    refine hK14 _ _ ?_
    refine zbx hp (τ' := frL [(8, .d (iD (2 + ts.length)))]) (H' := zbu (ts ++ [.node v lo hi]) (zpm (ndV (zhz ts (.node v lo hi))) (vi (2 + ts.length)) μu) μm) ?_ ?_
    ·refine Rt.trans (Rt.gc (keep := [0,1,2,6]) (by decide) (by decide) (by simp [])) ?_
     refine Rt.end (zaa (zae _) rfl) ?_
     simp only [gcH, zbb, zcq, zap, zcb, gcV, Nat.reduceAdd, zcp, List.map_cons, List.map_nil, List.getD_cons_zero, List.getD_cons_succ, ↓reduceIte, Nat.reduceEqDiff, Option.map_some]; unfold zbu zb8; rw [jeo (t := .node v lo hi) hS.row h1 h2]; simp [ndC, zhz, ndV, T.v, T.l, T.h, vi, iD, avs, Nat.add_assoc]
    refine zao ?_
    refine zb3 (t := 8) rfl ?_
    show ∃ _, _
    have hnew : num (ts ++ [.node v lo hi]) (.node v lo hi) = 2 + ts.length := zpp hg
    refine ⟨ts ++ [.node v lo hi], _, rfl, ?_, hS.add (t := .node v lo hi) hok rfl hg h1 h2 (by unfold zed; omega), List.prefix_append _ _, by simp, ?_⟩
    ·rw [hmk, hnew]; rfl
    ·rw [hmk, zf5]; simp
   ·cases ht
end Go.Proofs.Ytgfnpfchdlcoeaa
