/- The manager's tables in memory; keys of its maps. -/
import Derived.Test.YtgfnpfchdlcoeaaBa
import Derived.Test.YtgfnpfchdlcoeaaTy
set_option linter.unusedVariables false
set_option linter.unusedSimpArgs false
namespace Go.Proofs.Ytgfnpfchdlcoeaa
open Go Go.RowKit
theorem wf64 {n : Int} (h : I64 n) : (Lit.int .i64 n).wf = true := by
  obtain ⟨h1, h2⟩ := h
  simp [Lit.wf]; exact ⟨h1, by omega⟩
section
variable {P : Program}
theorem zqv {e : TypeId} (hu : P.underlying e = some (.int .i64)) {n : Int} (hn : I64 n) (d : Nat) : P.keyLits (d + 1) e [.int .i64 n] = some [.int .i64 n] := by
  simp [Program.keyLits, hu, wf64 hn]
theorem ex_succ {n : Nat} (h : Nat.ble 1 n = true) : ∃ d, n = d + 1 := ⟨n - 1, by have := Nat.le_of_ble_eq_true h; omega⟩
end
theorem key_nd {a b c : Int} (ha : I64 a) (hb : I64 b) (hc : I64 c) : KeyP Try.prog 137 (.agg #[.int .i64 a, .int .i64 b, .int .i64 c]) := by
  refine ⟨rfl, fun kt et hm => ?_⟩
  have h0 : mapO Try.prog 137 = some (83, 3) := by kernel_rfl
  rw [h0] at hm; cases hm
  obtain ⟨d, hd⟩ : ∃ d, Try.prog.types.size = d + 1 := ex_succ (by kernel_rfl)
  have h1 : Try.prog.keyType 83 = true := by kernel_rfl
  have h2 : Try.prog.cellsOf 83 = 3 := by kernel_rfl
  have h3 : Try.prog.cellsOf 3 = 1 := by kernel_rfl
  unfold keyOf
  rw [Try.underlying83]
  have h4 : Value.formed Try.prog 83 (.agg #[.int .i64 a, .int .i64 b, .int .i64 c]) = true := by
    unfold Value.formed
    simp only [Try.underlying83, h2]; rfl
  simp only [h1, h4, Bool.and_self, if_true, hd]
  unfold Program.keyLits
  simp only [Try.underlying83, h2, h3, Value.cells, List.mapM_cons, List.mapM_nil, List.drop_zero, List.drop_succ_cons, List.take_succ_cons, List.take_zero, zqv Try.underlying3 ha, zqv Try.underlying3 hb, zqv Try.underlying3 hc]
  rw [if_pos ⟨rfl, by first | rfl | decide | simp⟩]; rfl
theorem key_k3 {a b c : Int} (ha : I64 a) (hb : I64 b) (hc : I64 c) : KeyP Try.prog 138 (.agg #[.int .i64 a, .int .i64 b, .int .i64 c]) := by
  refine ⟨rfl, fun kt et hm => ?_⟩
  have h0 : mapO Try.prog 138 = some (154, 3) := by kernel_rfl
  rw [h0] at hm; cases hm
  obtain ⟨d, hd⟩ : ∃ d, Try.prog.types.size = d + 1 := ex_succ (by kernel_rfl)
  have h1 : Try.prog.keyType 154 = true := by kernel_rfl
  have h2 : Try.prog.cellsOf 154 = 3 := by kernel_rfl
  have h3 : Try.prog.cellsOf 3 = 1 := by kernel_rfl
  unfold keyOf
  rw [Try.underlying154]
  have h4 : Value.formed Try.prog 154 (.agg #[.int .i64 a, .int .i64 b, .int .i64 c]) = true := by
    unfold Value.formed
    simp only [Try.underlying154, h2]; rfl
  simp only [h1, h4, Bool.and_self, if_true, hd]
  unfold Program.keyLits
  have h5 : List.range 3 = [0, 1, 2] := rfl
  simp only [Try.underlying154, h2, h3, h5, Value.cells, List.mapM_cons, List.mapM_nil, Nat.zero_mul, Nat.one_mul, Nat.mul_one, List.drop_zero, List.drop_succ_cons, List.take_succ_cons, List.take_zero, zqv Try.underlying3 ha, zqv Try.underlying3 hb, zqv Try.underlying3 hc]
  rfl
theorem key_i {t et : TypeId} (h0 : mapO Try.prog t = some (3, et)) {a : Int} (ha : I64 a) : KeyP Try.prog t (.int .i64 a) := by
  refine ⟨rfl, fun kt et' hm => ?_⟩
  rw [h0] at hm; cases hm
  exact zl8 Try.underlying3 ha
theorem i64n {n : Nat} (h : n ≤ 4000000000) : I64 (n : Int) := ⟨by omega, by omega⟩
def ndC (n : Nd) : List D := [iD n.v, iD n.lo, iD n.hi]
def vi (n : Nat) : Value := .int .i64 n
def k3V (a b c : Nat) : Value := .agg #[vi a, vi b, vi c]
def ndV (n : Nd) : Value := k3V n.v n.lo n.hi
theorem nd_w (n : Nd) : (ndC n).length = 3 := rfl
section
variable {l : List Nd} {k : Nat}
theorem zqw (h : k < l.length) : zd0 (l.flatMap ndC) (k * 3) 3 = some (ndC (nth l k)) := zja nd_w h
theorem nd_0 (h : k < l.length) : (l.flatMap ndC)[k * 3]? = some (iD (nth l k).v) := (zkr (j := 0) nd_w h (by omega)).trans rfl
theorem zah : (l.flatMap ndC).length = l.length * 3 := zgl nd_w l
theorem zmi (l : List Nd) : (l.flatMap ndC).map D.fix = l.flatMap ndC := zog (fun _ => rfl) l
end
theorem zqx {a b : Nat} (h : vi a = vi b) : a = b := by
  unfold vi at h; injection h with _ h; omega
theorem k3_inj {a b c a' b' c' : Nat} (h : k3V a b c = k3V a' b' c') : a = a' ∧ b = b' ∧ c = c' := by
  unfold k3V at h
  injection h with h
  have h' := congrArg Array.toList h
  simp only [List.cons.injEq, and_true] at h'
  exact ⟨zqx h'.1, zqx h'.2.1, zqx h'.2.2⟩
theorem ndV_inj {m n : Nd} (h : ndV m = ndV n) : m = n := by
  obtain ⟨h1, h2, h3⟩ := k3_inj h
  cases m; cases n; simp_all
theorem k3_key {a b c : Nat} : vKey (k3V a b c) = true := rfl
/-! ### The manager -/
abbrev tU : TypeId := 137
abbrev tM : TypeId := 138
def bigB : Nat := 100000000
structure UOk (ts : List T) (μ : Mp) : Prop where
  ok : OkM Try.prog tU μ
  get : ∀ t ∈ ts, getM (ndV (ndOf ts t)) μ = some (vi (num ts t))
  inv : ∀ k u, getM k μ = some u → ∃ t ∈ ts, k = ndV (ndOf ts t)
structure MOk (ts : List T) (μ : Mp) : Prop where
  ok : OkM Try.prog tM μ
  inv : ∀ k u, getM k μ = some u → ∃ f g h t, f ∈ full ts ∧ g ∈ full ts ∧ h ∈ full ts ∧ t ∈ full ts ∧ k = k3V (num ts f) (num ts g) (num ts h) ∧ u = vi (num ts t) ∧ Ite f g h t
structure MS (V : Nat) (ts : List T) (μu μm : Mp) : Prop where
  row : RowOk V ts
  u : UOk ts μu
  m : MOk ts μm
  len : ts.length ≤ bigB
  V0 : V ≤ 900
theorem UOk.none {V : Nat} {ts : List T} {μ : Mp} (h : UOk ts μ) (hr : RowOk V ts) {t : T} (ht : t.lf = false) (hn : t ∉ full ts) (hl : t.l ∈ full ts) (hh : t.h ∈ full ts) : getM (ndV (ndOf ts t)) μ = none := by
  cases hg : getM (ndV (ndOf ts t)) μ with
  | none => rfl
  | some u =>
    obtain ⟨s, hs, he⟩ := h.inv _ _ hg
    have := nd_inj hr hs ht hl hh (ndV_inj he).symm
    exact absurd (List.mem_cons_of_mem _ (List.mem_cons_of_mem _ (this ▸ hs))) hn
theorem zk5 {ts : List T} (h : ts.length ≤ bigB) {t : T} (ht : t ∈ full ts) : num ts t ≤ 4000000000 := by
  have := zer ht; unfold bigB at h; omega
theorem T.Ok.v_le {V k : Nat} {t : T} (h : t.Ok V k) (hV : V ≤ 900) : t.v ≤ 1000 := by
  cases t with
  | leaf b => exact Nat.le_refl _
  | node v l r => have := h.2.1; show v ≤ 1000; omega
theorem MS.keyU {V : Nat} {ts : List T} {μu μm : Mp} (h : MS V ts μu μm) {v : Nat} (hv : v ≤ 1000) {lo hi : T} (hl : lo ∈ full ts) (hh : hi ∈ full ts) : KeyP Try.prog tU (ndV ⟨v, num ts lo, num ts hi⟩) :=
  key_nd (i64n (n := v) (by omega)) (i64n (zk5 h.len hl)) (i64n (zk5 h.len hh))
theorem MS.keyM {V : Nat} {ts : List T} {μu μm : Mp} (h : MS V ts μu μm) {f g t : T} (hf : f ∈ full ts) (hg : g ∈ full ts) (ht : t ∈ full ts) : KeyP Try.prog tM (k3V (num ts f) (num ts g) (num ts t)) :=
  key_k3 (i64n (zk5 h.len hf)) (i64n (zk5 h.len hg)) (i64n (zk5 h.len ht))
/-- A new node. -/
theorem MS.add {V : Nat} {ts : List T} {μu μm : Mp} (h : MS V ts μu μm) {t : T} (hk : t.Ok V 0) (ht : t.lf = false) (hn : t ∉ full ts) (hl : t.l ∈ full ts) (hh : t.h ∈ full ts) (hlen : ts.length < bigB) :
    MS V (ts ++ [t]) (putM (ndV (ndOf ts t)) (vi (2 + ts.length)) μu) μm := by
  have hp : ts <+: ts ++ [t] := List.prefix_append _ _
  have hkey : KeyP Try.prog tU (ndV (ndOf ts t)) := h.keyU (v := t.v) (hk.v_le h.V0) hl hh
  refine ⟨h.row.snoc hk hn hl hh, ⟨h.u.ok.put hkey, fun s hs => ?_, fun k u hg => ?_⟩, ⟨h.m.ok, fun k u hg => ?_⟩, by simp; omega, h.V0⟩
  · classical
    rw [zie hkey.1 (by rfl)]
    rcases List.mem_append.1 hs with hs | hs
    · have hsf : s ∈ full ts := List.mem_cons_of_mem _ (List.mem_cons_of_mem _ hs)
      rw [nd_pre h.row hp hsf, zfa hp hsf, if_neg fun e => hn (nd_inj h.row hs ht hl hh (ndV_inj e) ▸ hsf)]
      exact h.u.get s hs
    · rw [List.mem_singleton.1 hs, zrz hn]
      unfold ndOf
      rw [zgo hl, zgo hh, if_pos rfl]
  · classical
    by_cases hk' : vKey k = true
    · rw [zie hkey.1 hk'] at hg
      split at hg
      · rename_i e
        refine ⟨t, by simp, ?_⟩
        rw [e]; unfold ndOf
        rw [zgo hl, zgo hh]
      · obtain ⟨s, hs, rfl⟩ := h.u.inv k u hg
        exact ⟨s, List.mem_append_left _ hs, by rw [nd_pre h.row hp (List.mem_cons_of_mem _ (List.mem_cons_of_mem _ hs))]⟩
    · obtain ⟨n, hm⟩ := zmb hg
      exact absurd ((h.u.ok.put hkey).keys _ hm).1 hk'
  · obtain ⟨f, g, q, r, a1, a2, a3, a4, rfl, rfl, a5⟩ := h.m.inv k u hg
    exact ⟨f, g, q, r, zi1 a1, zi1 a2, zi1 a3, zi1 a4, by rw [zgo a1, zgo a2, zgo a3], by rw [zgo a4], a5⟩
/-- A choice is kept in mind. -/
theorem MS.memo {V : Nat} {ts : List T} {μu μm : Mp} (h : MS V ts μu μm) {f g q t : T} (hf : f ∈ full ts) (hg : g ∈ full ts) (hq : q ∈ full ts) (ht : t ∈ full ts) (hi : Ite f g q t) :
    MS V ts μu (putM (k3V (num ts f) (num ts g) (num ts q)) (vi (num ts t)) μm) := by
  refine ⟨h.row, h.u, ⟨h.m.ok.put (h.keyM hf hg hq), fun k u hk => ?_⟩, h.len, h.V0⟩
  classical
  by_cases hk' : vKey k = true
  · rw [zie (h.keyM hf hg hq).1 hk'] at hk
    split at hk
    · rename_i e
      cases hk
      exact ⟨f, g, q, t, hf, hg, hq, ht, e, rfl, hi⟩
    · exact h.m.inv k u hk
  · obtain ⟨n, hm⟩ := zmb hk
    exact absurd ((h.m.ok.put (h.keyM hf hg hq)).keys _ hm).1 hk'
def mgrC (n : Nat) : List AV := [.os 3 3 0 n, .om 1, .om 2]
def mgrH (ts : List T) (μu μm : Mp) : za0 := [.cells (mgrC (2 + ts.length)), mO μu, mO μm, .cells (avs ((mrow ts).flatMap ndC))]
def mgrD (ts : List T) (μu μm : Mp) : D := .fp [.fs ((mrow ts).flatMap ndC) (2 + ts.length), mD μu, mD μm] 0
theorem mtU : mtB Try.prog KT tU = some (.int .i64 0) := by kernel_rfl
theorem mtM : mtB Try.prog KT tM = some (.int .i64 0) := by kernel_rfl
end Go.Proofs.Ytgfnpfchdlcoeaa
