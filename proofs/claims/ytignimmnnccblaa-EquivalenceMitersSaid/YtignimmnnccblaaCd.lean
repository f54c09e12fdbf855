/- The builder: its tables, and what it reads. -/
import Derived.Test.YtignimmnnccblaaQr
import Derived.Test.YtignimmnnccblaaCc
import Derived.Test.YtignimmnnccblaaDa
set_option linter.unusedVariables false
set_option linter.unusedSimpArgs false
set_option maxRecDepth 100000
set_option maxHeartbeats 4000000
namespace Go.Proofs.Ytignimmnnccblaa
open Go Go.RowKit
theorem zf8 : ((((((type_of% @zh1) ∧ (type_of% @zh2)) ∧ ((type_of% @zir) ∧ (type_of% @zis))) ∧ (((type_of% @zex) ∧ (type_of% @zey)) ∧ ((type_of% @zfa) ∧ ((type_of% @zw1) ∧ (type_of% @zw2))))) ∧ ((((type_of% @zoy) ∧ (type_of% @zoz)) ∧ ((type_of% @zfu) ∧ (type_of% @zfv))) ∧ (((type_of% @zfw) ∧ (type_of% @zfx)) ∧ ((type_of% @zkr) ∧ ((type_of% @zks) ∧ (type_of% @zkt)))))) ∧ (((((type_of% @zde) ∧ (type_of% @zdf)) ∧ ((type_of% @zdg) ∧ (type_of% @zdq))) ∧ (((type_of% @zja) ∧ (type_of% @zjb)) ∧ ((type_of% @zhs) ∧ ((type_of% @zht) ∧ (type_of% @zmm))))) ∧ ((((type_of% @zmn) ∧ (type_of% @zfe)) ∧ ((type_of% @zff) ∧ (type_of% @zfg))) ∧ (((type_of% @zfh) ∧ (type_of% @zfi)) ∧ ((type_of% @zfj) ∧ ((type_of% @zjc) ∧ (type_of% @zjd))))))) := ⟨⟨⟨⟨⟨@zh1, @zh2⟩, ⟨@zir, @zis⟩⟩, ⟨⟨@zex, @zey⟩, ⟨@zfa, ⟨@zw1, @zw2⟩⟩⟩⟩, ⟨⟨⟨@zoy, @zoz⟩, ⟨@zfu, @zfv⟩⟩, ⟨⟨@zfw, @zfx⟩, ⟨@zkr, ⟨@zks, @zkt⟩⟩⟩⟩⟩, ⟨⟨⟨⟨@zde, @zdf⟩, ⟨@zdg, @zdq⟩⟩, ⟨⟨@zja, @zjb⟩, ⟨@zhs, ⟨@zht, @zmm⟩⟩⟩⟩, ⟨⟨⟨@zmn, @zfe⟩, ⟨@zff, @zfg⟩⟩, ⟨⟨@zfh, @zfi⟩, ⟨@zfj, ⟨@zjc, @zjd⟩⟩⟩⟩⟩⟩
theorem zn2 {V : Nat} {ts : List T} {μu μm : Mp} {f g h : T} {nf ng nh : Int} (hS : MS V ts μu μm) (hf : f ∈ zbq ts) (hg : g ∈ zbq ts) (hh : h ∈ zbq ts) (hlen : ts.length + 2 ^ V ≤ zel) (e1 : nf = num ts f) (e2 : ng = num ts g) (e3 : nh = num ts h) :
  ScS Try.prog [0, 1, 2] 71 [.op 0 0, .d (.val (.int .i64 nf)), .d (.val (.int .i64 ng)), .d (.val (.int .i64 nh))] (zbe ts μu μm) (js1 V (2 ^ V) ts f g h) := by
 subst e1 e2 e3
 have z : V - V = 0 := Nat.sub_self V
 exact js3 V V ts μu μm f g h hS hf hg hh (by rw [z]; exact hS.row.okf hf) (by rw [z]; exact hS.row.okf hg) (by rw [z]; exact hS.row.okf hh) hlen
def zqn (v : Nat) : T := .node v (.leaf false) (.leaf true)
theorem jq4 {V : Nat} {ts : List T} {μu μm : Mp} {v : Nat} {nv : Int} (hS : MS V ts μu μm) (hv : v < V) (hlen : ts.length < zel) (e : nv = v) :
  ScS Try.prog [0, 1, 2] 66 [.op 0 0, .d (.val (.int .i64 nv)), .d (.val (.int .i64 0)), .d (.val (.int .i64 1))] (zbe ts μu μm) (jqr V ts μm (zqn v)) := by
 subst e
 have c := jjr V ts μu μm hS v (.leaf false) (.leaf true) hv (zhy _) (zp5 _) trivial trivial hlen
 rw [zjk, zp4] at c
 exact c
abbrev Sh := List (Nat × Nat)
def shC (p : Nat × Nat) : List D := [iD p.1, iD p.2]
def shD (sh : Sh) : D := .fs (sh.flatMap shC) sh.length
theorem jmr (p : Nat × Nat) : (shC p).length = 2 := rfl
section
variable {l : Sh} {k : Nat}
theorem jjs (h : k < l.length) : zcm (l.flatMap shC) (k * 2) 2 = some (shC (nth l k)) := zhf jmr h
theorem jjt (h : k < l.length) : (l.flatMap shC)[k * 2]? = some (iD (nth l k).1) := (zi6 (j := 0) jmr h (by omega)).trans rfl
theorem jju (h : k < l.length) : (l.flatMap shC)[k * 2 + 1]? = some (iD (nth l k).2) := (zi6 (j := 1) jmr h (by omega)).trans rfl
theorem zag : (l.flatMap shC).length = l.length * 2 := zeu jmr l
end
theorem jq5 (l : Sh) : (l.flatMap shC).map D.fix = l.flatMap shC := zmg (fun _ => rfl) l
structure ShOk (sh : Sh) : Prop where
 len : sh.length ≤ 8
 el : ∀ k, k < sh.length → (nth sh k).1 ≤ 8 ∧ (nth sh k).2 ≤ 8
def zbz (base : Nat) (sh : Sh) (k : Nat) : Nat := base + ((sh.take k).map fun p => p.1 * p.2).sum
def znl (base : Nat) (sh : Sh) : List Nat := (List.range sh.length).map (zbz base sh)
theorem zal (base : Nat) (sh : Sh) : (znl base sh).length = sh.length := by simp [znl]
theorem zlm {base : Nat} {sh : Sh} {k : Nat} (h : k < sh.length) : nth (znl base sh) k = zbz base sh k := zcj h
def zdm (base : Nat) (sh : Sh) : Nat := zbz base sh sh.length
theorem zf0 {base : Nat} {sh : Sh} {k : Nat} (h : k < sh.length) : zbz base sh (k + 1) = zbz base sh k + (nth sh k).1 * (nth sh k).2 := by
 unfold zbz; rw [zdy h]; simp; omega
theorem zqo {base : Nat} {sh : Sh} : ∀ {d k : Nat}, k + d ≤ sh.length → zbz base sh k ≤ zbz base sh (k + d)
 | 0, k, _ => Nat.le_refl _
 | d + 1, k, h => by
  have := zqo (base := base) (sh := sh) (d := d) (k := k) (by omega)
  rw [show k + (d + 1) = (k + d) + 1 by omega, zf0 (by omega)]; omega
theorem zxx {base : Nat} {sh : Sh} {k i b : Nat} (hk : k < sh.length) (hi : i < (nth sh k).1) (hb : b < (nth sh k).2) : zbz base sh k + i * (nth sh k).2 + b < zdm base sh := by
 have h1 := zf0 (base := base) hk
 have h2 := zqo (base := base) (sh := sh) (d := sh.length - (k + 1)) (k := k + 1) (by omega)
 rw [show k + 1 + (sh.length - (k + 1)) = sh.length by omega] at h2
 have h3 : i * (nth sh k).2 + (nth sh k).2 ≤ (nth sh k).1 * (nth sh k).2 := by
  have := Nat.mul_le_mul_right (nth sh k).2 (Nat.succ_le_of_lt hi)
  rwa [Nat.succ_mul] at this
 unfold zdm; omega
def zsy (base : Nat) (sh : Sh) (n x : Nat) (a : Nat → Bool) : Bool := decide (n / 8 < sh.length) && (decide (n % 8 < (nth sh (n / 8)).2) && (decide (x < (nth sh (n / 8)).1) && a (zbz base sh (n / 8) + x * (nth sh (n / 8)).2 + n % 8)))
def zb1 (ts : List T) (t : T) : D := iD (num ts t)
def zbw (n : Nat) : D := iD n
theorem zdz {ts us fs : List T} (hp : ts <+: us) (h : ∀ t ∈ fs, t ∈ zbq ts) : fs.map (zb1 us) = fs.map (zb1 ts) := List.map_congr_left fun t ht => by unfold zb1; rw [zdr hp (h t ht)]
theorem zxy {ts : List T} {l : List T} {k : Nat} {t : T} : (l.map (zb1 ts)).set k (.val (.int .i64 (num ts t))) = (l.set k t).map (zb1 ts) := by rw [List.map_set]; rfl
def gA (g : Gate) : List AV := [.d (iD g.op), .d (iD g.a), .d (iD g.b), .d (iD g.c), .d (iD g.n)]
def zbk (ts : List T) (base : Nat) (sh : Sh) (fs : List T) : zar := [.cells [.op 0 0, .os 1 6 0 sh.length, .d (shD sh), .os 1 5 0 fs.length], .cells (avs (fs.map (zb1 ts))), .cells (avs ((znl base sh).map zbw))]
def zbl (ts : List T) (μu μm : Mp) (base : Nat) (sh : Sh) (fs : List T) : zar := zbe ts μu μm ++ zbk ts base sh fs
def jud (V b : Nat) (ts : List T) (base : Nat) (sh : Sh) (fs : List T) (sem : (Nat → Bool) → Bool) (x : AV) (S' : zar) : Prop :=
 ∃ ts' μu' μm' t, S' = zbl ts' μu' μm' base sh fs ∧ x = .d (iD (num ts' t)) ∧ MS V ts' μu' μm' ∧ ts <+: ts' ∧ ts'.length ≤ ts.length + b ∧ t ∈ zbq ts' ∧ ∀ a, t.eval a = sem a
def low (fs : List T) (l : List Int) (a : Nat → Bool) : Nat → Nat
 | 0 => 0
 | j + 1 => low fs l a j + if (nth fs (nth l j).toNat).eval a then 2 ^ j else 0
structure GOp (m : Nat) (g : Gate) : Prop where
 a0 : 0 ≤ g.a
 a1 : g.a < m
 b0 : 0 ≤ g.b
 b1 : g.b < m
 c0 : 0 ≤ g.c
 c1 : g.c < m
 n0 : 0 ≤ g.n
 n1 : g.n < 1000000
theorem jk6 {α : Type} [Inhabited α] {n j : Nat} {x : α} (h : j < n) : nth (List.replicate n x) j = x := by rw [zb9 (by simpa using h)]; simp
theorem lvl {j : Nat} (h : j < 3) : 8 / 2 ^ j = 2 * (8 / 2 ^ (j + 1)) ∧ 8 / 2 ^ (j + 1) ≤ 4 ∧ 1 ≤ 8 / 2 ^ (j + 1) := by
 rcases (show j = 0 ∨ j = 1 ∨ j = 2 by omega) with rfl | rfl | rfl <;> decide
theorem jk7 (V base : Nat) (sh : Sh) (fs : List T) (ts : List T) (μu μm : Mp) (g : Gate) (hS : MS V ts μu μm) (hsh : ShOk sh) (hV : zdm base sh ≤ V) (hfs : ∀ t ∈ fs, t ∈ zbq ts) (hfl : fs.length ≤ 1000000) (hg : GOp fs.length g) (hlen : ts.length + 32 * 2 ^ V ≤ zel) : ScS Try.prog [0, 1, 2, 4, 5, 6] 72 [.op 4 0, .agg (gA g)] (zbl ts μu μm base sh fs) (jud V (8 + 7 * 2 ^ V) ts base sh fs fun a => zsy base sh g.n.toNat (low fs [g.a, g.b, g.c] a 3) a) := by
 refine zhd (fn := Try.f72) (by kernel_rfl) Try.func72 rfl (Nat.le_of_ble_eq_true rfl) fun c hc hp => ?_
 refine jb0 ?_
 have hpos : 0 < 2 ^ V := Nat.two_pow_pos V
 unfold zel at hlen
 have hV9 := hS.V0
 have hs8 := hsh.len
 obtain ⟨a0, a1, b0, b1, c0, c1, n0, n1⟩ := hg
 obtain ⟨n, hn⟩ : ∃ n : Nat, g.n = n := ⟨g.n.toNat, by omega⟩
 have hk : g.n / 8 = ((n / 8 : Nat) : Int) := by omega
 have hb : g.n % 8 = ((n % 8 : Nat) : Int) := by omega
 obtain ⟨k, ek⟩ : ∃ k : Nat, n / 8 = k := ⟨_, rfl⟩
 obtain ⟨b, eb⟩ : ∃ b : Nat, n % 8 = b := ⟨_, rfl⟩
 rw [ek] at hk
 rw [eb] at hb
 have hn8 : g.n.toNat = n := by omega
 refine zac hp zaj hc rfl fun K1 hK1 => ?_
 simp -dsimp -implicitDefEqProofs (disch := first | assumption | omega | (simp only [r_z, zai, zad, zag, zal] <;> omega) | decide) only [r_r, ↓reduceIte, Nat.reduceEqDiff, Nat.reduceAdd, D.fix, Int.reduceToNat, Nat.reduceMul, Nat.reduceBNe, Nat.reduceBEq, r_m, zbe, zbh, zbl, zbk, shD, gA, zb1, zbw, zf8]
 refine hK1 _ _ ?_
 refine zbn zaj hc mixed rfl (q := 0) (by kernel_rfl) (by kernel_rfl) fun K2 hK2 => ?_
 simp -dsimp -implicitDefEqProofs (disch := first | assumption | omega | (simp only [r_z, zai, zad, zag, zal] <;> omega) | decide) only [r_r, ↓reduceIte, Nat.reduceEqDiff, Nat.reduceAdd, D.fix, Int.reduceToNat, Nat.reduceMul, Nat.reduceBNe, Nat.reduceBEq, r_m, zbe, zbh, zbl, zbk, shD, gA, zb1, zbw, hk, hb, zf8]
 refine hK2 _ _ ?_
 refine zam fun K3 hK3 => ?_
 refine zac hp zaj hc rfl fun K4 hK4 => ?_
 rcases (show sh.length ≤ k ∨ (k < sh.length ∧ (nth sh k).2 ≤ b) ∨ (k < sh.length ∧ b < (nth sh k).2) by omega) with q | ⟨q, q'⟩ | ⟨q, q'⟩
 ·have q1 : decide ((sh.length : Int) ≤ (k : Int)) = true := by simp; omega
  have q2 := q1
  simp -dsimp -implicitDefEqProofs (disch := first | assumption | omega | (simp only [r_z, zai, zad, zag, zal] <;> omega) | decide) only [r_r, ↓reduceIte, Nat.reduceEqDiff, Nat.reduceAdd, D.fix, Int.reduceToNat, Nat.reduceMul, Nat.reduceBNe, Nat.reduceBEq, r_m, zbe, zbh, zbl, zbk, shD, gA, zb1, zbw, q1, q2, jjt, jju, zf8]
  refine hK4 _ _ ?_
  refine zaq rfl (fun ht => ?_) (fun ht => ?_)
  ·refine zac hp zaj hc rfl fun K5 hK5 => ?_
   simp -dsimp -implicitDefEqProofs (disch := first | assumption | omega | (simp only [r_z, zai, zad, zag, zal] <;> omega) | decide) only [r_r, ↓reduceIte, Nat.reduceEqDiff, Nat.reduceAdd, D.fix, Int.reduceToNat, Nat.reduceMul, Nat.reduceBNe, Nat.reduceBEq, r_m, zbe, zbh, zbl, zbk, shD, gA, zb1, zbw]
   refine hK5 _ _ ?_
   refine zb2 hp (τ' := frL [(4, .d (iD 0))]) (H' := zbl ts μu μm base sh fs) ?_ ?_
   ·refine Rt.trans (Rt.gc (keep := [0,1,2,3,4,5,6]) (by decide) (by decide) (by simp [fzH, gcH])) ?_
    refine Rt.end (by repeat (first | exact zak _ | refine zah ?_ (by first | rfl | (simp [r_f, zai, zad, zag, zal, shD]; done) | simp [r_f, zai, zad, zag, zal, shD, *]))) ?_
    first | rfl | (simp only [r_g, Nat.reduceAdd, ↓reduceIte, Nat.reduceEqDiff, r_m, zbe, zbh, zbl, zbk, shD, gA, zb1, zbw]; first | done | rfl)
   refine za4 ?_
   refine zbp (t := 4) rfl ?_
   show ∃ _, _
   refine ⟨ts, μu, μm, .leaf false, rfl, by rw [zjk]; rfl, hS, List.prefix_refl _, by omega, zhy _, fun a => ?_⟩
   unfold zsy
   rw [hn8, ek, decide_eq_false (by omega)]; rfl
  ·cases ht
 ·have q1 : decide ((sh.length : Int) ≤ (k : Int)) = false := by simp; omega
  have q2 : decide (((nth sh k).2 : Int) ≤ (b : Int)) = true := by simp; omega
  simp -dsimp -implicitDefEqProofs (disch := first | assumption | omega | (simp only [r_z, zai, zad, zag, zal] <;> omega) | decide) only [r_r, ↓reduceIte, Nat.reduceEqDiff, Nat.reduceAdd, D.fix, Int.reduceToNat, Nat.reduceMul, Nat.reduceBNe, Nat.reduceBEq, r_m, zbe, zbh, zbl, zbk, shD, gA, zb1, zbw, q1, q2, jjt, jju, zf8]
  refine hK4 _ _ ?_
  refine zaq rfl (fun ht => ?_) (fun ht => ?_)
  ·refine zac hp zaj hc rfl fun K6 hK6 => ?_
   simp -dsimp -implicitDefEqProofs (disch := first | assumption | omega | (simp only [r_z, zai, zad, zag, zal] <;> omega) | decide) only [r_r, ↓reduceIte, Nat.reduceEqDiff, Nat.reduceAdd, D.fix, Int.reduceToNat, Nat.reduceMul, Nat.reduceBNe, Nat.reduceBEq, r_m, zbe, zbh, zbl, zbk, shD, gA, zb1, zbw]
   refine hK6 _ _ ?_
   refine zb2 hp (τ' := frL [(4, .d (iD 0))]) (H' := zbl ts μu μm base sh fs) ?_ ?_
   ·refine Rt.trans (Rt.gc (keep := [0,1,2,3,4,5,6]) (by decide) (by decide) (by simp [fzH, gcH])) ?_
    refine Rt.end (by repeat (first | exact zak _ | refine zah ?_ (by first | rfl | (simp [r_f, zai, zad, zag, zal, shD]; done) | simp [r_f, zai, zad, zag, zal, shD, *]))) ?_
    first | rfl | (simp only [r_g, Nat.reduceAdd, ↓reduceIte, Nat.reduceEqDiff, r_m, zbe, zbh, zbl, zbk, shD, gA, zb1, zbw]; first | done | rfl)
   refine za4 ?_
   refine zbp (t := 4) rfl ?_
   show ∃ _, _
   refine ⟨ts, μu, μm, .leaf false, rfl, by rw [zjk]; rfl, hS, List.prefix_refl _, by omega, zhy _, fun a => ?_⟩
   unfold zsy
   rw [hn8, ek, eb, decide_eq_false (p := b < (nth sh k).2) (by omega)]; simp [T.eval]
  ·cases ht
 ·have q1 : decide ((sh.length : Int) ≤ (k : Int)) = false := by simp; omega
  have q2 : decide (((nth sh k).2 : Int) ≤ (b : Int)) = false := by simp; omega
  simp -dsimp -implicitDefEqProofs (disch := first | assumption | omega | (simp only [r_z, zai, zad, zag, zal] <;> omega) | decide) only [r_r, ↓reduceIte, Nat.reduceEqDiff, Nat.reduceAdd, D.fix, Int.reduceToNat, Nat.reduceMul, Nat.reduceBNe, Nat.reduceBEq, r_m, zbe, zbh, zbl, zbk, shD, gA, zb1, zbw, q1, q2, jjt, jju, zf8]
  refine hK4 _ _ ?_
  refine zaq rfl (fun ht => ?_) (fun ht => ?_)
  ·cases ht
  ·refine zay (hK3 _ _ ?_)
   refine zac hp zaj hc rfl fun K7 hK7 => ?_
   simp -dsimp -implicitDefEqProofs (disch := first | assumption | omega | (simp only [r_z, zai, zad, zag, zal] <;> omega) | decide) only [r_r, ↓reduceIte, Nat.reduceEqDiff, Nat.reduceAdd, D.fix, Int.reduceToNat, Nat.reduceMul, Nat.reduceBNe, Nat.reduceBEq, r_m, zbe, zbh, zbl, zbk, shD, gA, zb1, zbw, zf8]
   refine hK7 _ _ ?_
   refine zam fun K8 hK8 => ?_
   refine zac hp zaj hc rfl fun K9 hK9 => ?_
   simp -dsimp -implicitDefEqProofs (disch := first | assumption | omega | (simp only [r_z, zai, zad, zag, zal] <;> omega) | decide) only [r_r, ↓reduceIte, Nat.reduceEqDiff, Nat.reduceAdd, D.fix, Int.reduceToNat, Nat.reduceMul, Nat.reduceBNe, Nat.reduceBEq, r_m, zbe, zbh, zbl, zbk, shD, gA, zb1, zbw, jjt, jju, zf8]
   refine hK9 _ _ ?_
   refine zaz ?_
   refine za7 hp (fun τ' H' mm => ∃ (i : Nat) (ts' : List T) (μu' μm' : Mp) (ws : List T), (i ≤ (nth sh k).1 ∧ MS V ts' μu' μm' ∧ ts <+: ts' ∧ ts'.length ≤ ts.length + i ∧ ws.length = 8 ∧ ∀ j, j < 8 → nth ws j ∈ zbq ts' ∧ nth ws j = if j < i then zqn (zbz base sh k + j * (nth sh k).2 + b) else .leaf false) ∧ mm = (nth sh k).1 - i ∧ H' = zbl ts' μu' μm' base sh fs ++ [.cells (gA g), .cells (avs (ws.map (zb1 ts')))] ∧ τ' = frL [(0, .op 4 0), (3, .op 7 0), (5, .d (iD k)), (6, .d (iD b)), (7, .os 1 8 0 8), (45, .d (iD (nth sh k).1)), (46, .d (iD i))]) ((nth sh k).1) ?_ ⟨0, ts, μu, μm, List.replicate 8 (.leaf false), ⟨Nat.zero_le _, hS, List.prefix_refl _, by omega, by simp, fun j hj => by rw [jk6 hj]; simp [zhy]⟩, rfl, rfl, rfl⟩ ?_
   ·refine Rt.trans (Rt.gc (keep := [0,1,2,3,4,5,6,7,8]) (by decide) (by decide) (by simp [fzH, gcH])) ?_
    refine Rt.end (by repeat (first | exact zak _ | refine zah ?_ (by first | rfl | (simp [r_f, zai, zad, zag, zal, shD]; done) | simp [r_f, zai, zad, zag, zal, shD, *]))) ?_
    simp only [r_g, Nat.reduceAdd, ↓reduceIte, Nat.reduceEqDiff, r_m, zbe, zbh, zbl, zbk, shD, gA, zb1, zbw]; simp [zb1, zjk, iD, List.replicate_succ]; rfl
   rintro τ' H' mm ⟨i, ts', μu', μm', ws, ⟨hi, hS', hp', hl', hw8, hws⟩, rfl, rfl, rfl⟩
   refine zac hp zaj hc rfl fun K10 hK10 => ?_
   simp -dsimp -implicitDefEqProofs (disch := first | assumption | omega | (simp only [r_z, zai, zad, zag, zal] <;> omega) | decide) only [r_r, ↓reduceIte, Nat.reduceEqDiff, Nat.reduceAdd, D.fix, Int.reduceToNat, Nat.reduceMul, Nat.reduceBNe, Nat.reduceBEq, r_m, zbe, zbh, zbl, zbk, shD, gA, zb1, zbw, zf8]
   refine hK10 _ _ ?_
   refine zam fun K11 hK11 => ?_
   refine zaq rfl (fun ht => ?_) (fun ht => ?_)
   ·have hlt : i < (nth sh k).1 := by simp at ht; omega
    have hel := hsh.el k q
    have hi8 : i < 8 := by omega
    have hib : (i : Int) * ((nth sh k).2 : Int) ≤ 64 := by
     have := Nat.mul_le_mul (show i ≤ 8 by omega) hel.2
     omega
    have hib0 : 0 ≤ (i : Int) * ((nth sh k).2 : Int) := by
     have : ((i * (nth sh k).2 : Nat) : Int) = (i : Int) * ((nth sh k).2 : Int) := by simp
     omega
    obtain ⟨v, ev⟩ : ∃ v : Nat, zbz base sh k + i * (nth sh k).2 + b = v := ⟨_, rfl⟩
    have hvV : v < V := by have := zxx (base := base) q hlt q'; omega
    have hv' : (zbz base sh k : Int) + (i : Int) * ((nth sh k).2 : Int) + (b : Int) = (v : Int) := by rw [← ev]; simp
    refine zay (hK11 _ _ ?_)
    refine zam fun K12 hK12 => ?_
    refine zaz ?_
    refine zac hp zaj hc rfl fun K13 hK13 => ?_
    simp -dsimp -implicitDefEqProofs (disch := first | assumption | omega | (simp only [r_z, zai, zad, zag, zal] <;> omega) | decide) only [r_r, ↓reduceIte, Nat.reduceEqDiff, Nat.reduceAdd, D.fix, Int.reduceToNat, Nat.reduceMul, Nat.reduceBNe, Nat.reduceBEq, r_m, zbe, zbh, zbl, zbk, shD, gA, zb1, zbw]
    refine hK13 _ _ ?_
    refine znf zaj hp hc mixed rfl [(0, []), (1, []), (2, []), (3, []), (4, []), (5, []), (6, []), (7, []), (8, []), (9, []), (10, []), (11, []), (12, []), (13, []), (14, []), (15, []), (16, []), (17, []), (18, []), (19, []), (20, []), (21, []), (22, []), (23, []), (24, []), (25, []), (26, []), (27, []), (28, [])] [[], [], [], [2], [2, 3], [2, 3, 4], [], [6], [6, 7], [6, 7, 8], [], [6, 7, 8, 9, 10], [6, 7, 8, 9, 10, 11], [], [], [14], [14, 15], [14, 15, 16], [], [14, 15, 16, 17, 18], [14, 15, 16, 17, 18, 19], [14, 15, 16, 17, 18, 19, 20], [13, 14, 15, 16, 17, 18, 19, 20, 21], [6, 7, 8, 9, 10, 11, 12, 13, 14, 15, 16, 17, 18, 19, 20, 21, 22], [], [6, 7, 8, 9, 10, 11, 12, 13, 14, 15, 16, 17, 18, 19, 20, 21, 22, 23, 24], [2, 3, 4, 5, 6, 7, 8, 9, 10, 11, 12, 13, 14, 15, 16, 17, 18, 19, 20, 21, 22, 23, 24, 25], [0, 1, 2, 3, 4, 5, 6, 7, 8, 9, 10, 11, 12, 13, 14, 15, 16, 17, 18, 19, 20, 21, 22, 23, 24, 25, 26], [0, 1, 2, 3, 4, 5, 6, 7, 8, 9, 10, 11, 12, 13, 14, 15, 16, 17, 18, 19, 20, 21, 22, 23, 24, 25, 26, 27]] 0 (by kernel_rfl) fun K14 hK14 => ?_
    simp -dsimp -implicitDefEqProofs (disch := first | assumption | omega | (simp only [r_z, zai, zad, zag, zal] <;> omega) | decide) only [r_r, ↓reduceIte, Nat.reduceEqDiff, Nat.reduceAdd, D.fix, Int.reduceToNat, Nat.reduceMul, Nat.reduceBNe, Nat.reduceBEq, r_w, r_m, zbe, zbh, zbl, zbk, shD, gA, zb1, zbw, jjt, jju, zlm q, zf8]
    refine znh (S := zbe ts' μu' μm') (T := zbk ts' base sh fs ++ [.cells (gA g), .cells (avs (ws.map (zb1 ts')))]) (jq4 (v := v) hS' hvV (by unfold zel; omega) hv') rfl (Nat.le_of_ble_eq_true rfl) (by first | rfl | (simp [AV.allIs, AV.allI, za1, zat, zau, okI, ltI, zao, zbb, zbe, zbh, zbk, gA]; done) | (intro o ho; simp at ho; done)) (fun t => zbr (by first | rfl | (simp [AV.allIs, AV.allI, za1, zat, zau, okI, ltI, zao, zbb, zbe, zbh, zbk, gA]; done) | (intro o ho; simp at ho; done)) t) (fun t => zbr (by first | rfl | (simp [AV.allIs, AV.allI, za1, zat, zau, okI, ltI, zao, zbb, zbe, zbh, zbk, gA]; done) | (intro o ho; simp at ho; done)) t) (by first | rfl | (simp [AV.allIs, AV.allI, za1, zat, zau, okI, ltI, zao, zbb, zbe, zbh, zbk, gA]; done) | (intro o ho; simp at ho; done)) (by first | rfl | (simp [AV.allIs, AV.allI, za1, zat, zau, okI, ltI, zao, zbb, zbe, zbh, zbk, gA]; done) | (intro o ho; simp at ho; done)) (by first | rfl | (simp [AV.allIs, AV.allI, za1, zat, zau, okI, ltI, zao, zbb, zbe, zbh, zbk, gA]; done) | (intro o ho; simp at ho; done)) ?_
    rintro _ _ ⟨ts2, μu2, rfl, rfl, hS2, hp2, hl2, hm2⟩
    refine ⟨rfl, ?_⟩
    have hfs' : ∀ t ∈ fs, t ∈ zbq ts' := fun t h => zcb hp' (hfs t h)
    have hwf : ∀ t ∈ ws, t ∈ zbq ts' := fun t h => by obtain ⟨j, hj, rfl⟩ := List.getElem_of_mem h; have := (hws j (by omega)).1; rwa [zb9 hj] at this
    simp -dsimp -implicitDefEqProofs (disch := first | assumption | omega | (simp only [r_z, zai, zad, zag, zal] <;> omega) | decide) only [r_r, ↓reduceIte, Nat.reduceEqDiff, Nat.reduceAdd, D.fix, Int.reduceToNat, Nat.reduceMul, Nat.reduceBNe, Nat.reduceBEq, r_w, r_m, zbe, zbh, zbl, zbk, shD, gA, zb1, zbw, jjt, jju, zlm q, zf8]
    refine hK14 _ _ (hK12 _ _ ?_)
    refine zbo hp zaj hc rfl fun K15 hK15 => ?_
    simp -dsimp -implicitDefEqProofs (disch := first | assumption | omega | (simp only [r_z, zai, zad, zag, zal] <;> omega) | decide) only [r_r, ↓reduceIte, Nat.reduceEqDiff, Nat.reduceAdd, D.fix, Int.reduceToNat, Nat.reduceMul, Nat.reduceBNe, Nat.reduceBEq, r_m, zbe, zbh, zbl, zbk, shD, gA, zb1, zbw, zf8]
    have hws2 : ∀ j, j < 8 → nth (ws.set i (zqn v)) j ∈ zbq ts2 ∧ nth (ws.set i (zqn v)) j = if j < i + 1 then zqn (zbz base sh k + j * (nth sh k).2 + b) else .leaf false := fun j hj => by
     by_cases e : i = j
     ·subst e
      rw [zg3 (by omega), if_pos (by omega), ev]
      exact ⟨hm2, rfl⟩
     ·rw [zfz e]
      refine ⟨zcb hp2 (hws j hj).1, (hws j hj).2.trans ?_⟩
      by_cases h1 : j < i
      ·rw [if_pos h1, if_pos (by omega)]
      ·rw [if_neg h1, if_neg (by omega)]
    refine hK15 _ _ ⟨_, _, _, ?_, ⟨i + 1, ts2, μu2, μm', ws.set i (zqn v), ⟨by omega, hS2, hp'.trans hp2, by omega, by simpa using hw8, hws2⟩, rfl, rfl, rfl⟩, ?_⟩
    ·first | omega | (simp only [List.length_cons]; omega) | (dsimp only; omega)
    ·refine Rt.trans (Rt.gc (keep := [0,1,2,3,4,5,6,7,8]) (by decide) (by decide) (by simp [fzH, gcH])) ?_
     refine Rt.end (by repeat (first | exact zak _ | refine zah ?_ (by first | rfl | (simp [r_f, zai, zad, zag, zal, shD]; done) | simp [r_f, zai, zad, zag, zal, shD, *]))) ?_
     simp only [r_g, Nat.reduceAdd, ↓reduceIte, Nat.reduceEqDiff, r_m, zbe, zbh, zbl, zbk, shD, gA, zb1, zbw]; rw [zdz hp2 hfs', ← zxy, zdz hp2 hwf]; rfl
   ·have hii : i = (nth sh k).1 := by simp at ht; omega
    have hel := hsh.el k q
    obtain ⟨l3, hl3⟩ : ∃ l3 : List Int, l3 = [g.a, g.b, g.c] := ⟨_, rfl⟩
    have h33 : l3.length = 3 := by rw [hl3]; rfl
    have hw0 : ∀ p, p < 8 / 2 ^ 0 → ∀ a, (nth ws p).eval a = (decide (p * 2 ^ 0 + low fs l3 a 0 < (nth sh k).1) && a (zbz base sh k + (p * 2 ^ 0 + low fs l3 a 0) * (nth sh k).2 + b)) := fun p hp a => by
     rw [(hws p (by simpa using hp)).2, hii]
     simp only [Nat.pow_zero, Nat.mul_one, low, Nat.add_zero]
     by_cases h1 : p < (nth sh k).1
     ·rw [if_pos h1, decide_eq_true h1]
      show (if a _ then true else false) = _
      cases a (zbz base sh k + p * (nth sh k).2 + b) <;> rfl
     ·rw [if_neg h1, decide_eq_false h1]; rfl
    refine zbj (hK8 _ _ ?_)
    refine zam fun K16 hK16 => ?_
    refine zac hp zaj hc rfl fun K17 hK17 => ?_
    simp -dsimp -implicitDefEqProofs (disch := first | assumption | omega | (simp only [r_z, zai, zad, zag, zal] <;> omega) | decide) only [r_r, ↓reduceIte, Nat.reduceEqDiff, Nat.reduceAdd, D.fix, Int.reduceToNat, Nat.reduceMul, Nat.reduceBNe, Nat.reduceBEq, r_m, zbe, zbh, zbl, zbk, shD, gA, zb1, zbw, zf8]
    refine hK17 _ _ ?_
    refine zaz ?_
    refine za7 hp (fun τ' H' mm => ∃ (j : Nat) (ts2 : List T) (μu2 μm2 : Mp) (ws : List T), (j ≤ 3 ∧ MS V ts2 μu2 μm2 ∧ ts <+: ts2 ∧ ts2.length ≤ ts.length + 8 + (8 - 8 / 2 ^ j) * 2 ^ V ∧ ws.length = 8 ∧ (∀ t ∈ ws, t ∈ zbq ts2) ∧ ∀ i, i < 8 / 2 ^ j → ∀ a, (nth ws i).eval a = (decide (i * 2 ^ j + low fs l3 a j < (nth sh k).1) && a (zbz base sh k + (i * 2 ^ j + low fs l3 a j) * (nth sh k).2 + b))) ∧ mm = 3 - j ∧ H' = zbl ts2 μu2 μm2 base sh fs ++ [.cells (gA g), .cells (avs (ws.map (zb1 ts2))), .cells (avs (l3.map iD))] ∧ τ' = frL [(0, .op 4 0), (7, .os 1 8 0 (8 / 2 ^ j)), (84, .os 1 9 0 3), (85, .d (iD 3)), (86, .d (iD j))]) (3) ?_ ⟨0, ts', μu', μm', ws, ⟨Nat.zero_le _, hS', hp', by simp; omega, hw8, fun t h => by obtain ⟨j, hj, rfl⟩ := List.getElem_of_mem h; have := (hws j (by omega)).1; rwa [zb9 hj] at this, hw0⟩, rfl, rfl, rfl⟩ ?_
    ·refine Rt.trans (Rt.gc (keep := [0,1,2,3,4,5,6,7,8,9]) (by decide) (by decide) (by simp [fzH, gcH])) ?_
     refine Rt.end (by repeat (first | exact zak _ | refine zah ?_ (by first | rfl | (simp [r_f, zai, zad, zag, zal, shD]; done) | simp [r_f, zai, zad, zag, zal, shD, *]))) ?_
     simp only [r_g, Nat.reduceAdd, ↓reduceIte, Nat.reduceEqDiff, r_m, zbe, zbh, zbl, zbk, shD, gA, zb1, zbw]; rw [hl3]; first | done | rfl
    rintro τ' H' mm ⟨j, ts2, μu2, μm2, ws, ⟨hj, hS2, hp2, hl2, hv8, hvf, hve⟩, rfl, rfl, rfl⟩
    refine zac hp zaj hc rfl fun K18 hK18 => ?_
    simp -dsimp -implicitDefEqProofs (disch := first | assumption | omega | (simp only [r_z, zai, zad, zag, zal] <;> omega) | decide) only [r_r, ↓reduceIte, Nat.reduceEqDiff, Nat.reduceAdd, D.fix, Int.reduceToNat, Nat.reduceMul, Nat.reduceBNe, Nat.reduceBEq, r_m, zbe, zbh, zbl, zbk, shD, gA, zb1, zbw, zf8]
    refine hK18 _ _ ?_
    refine zam fun K19 hK19 => ?_
    refine zaq rfl (fun ht => ?_) (fun ht => ?_)
    ·have hlt : j < 3 := by simp at ht; omega
     obtain ⟨L1, L2, L3⟩ := lvl hlt
     obtain ⟨L, eL⟩ : ∃ L, 8 / 2 ^ (j + 1) = L := ⟨_, rfl⟩
     obtain ⟨o, eo⟩ : ∃ o, nth l3 j = o := ⟨_, rfl⟩
     have ho : 0 ≤ o ∧ o < fs.length := by
      rw [← eo, hl3]
      rcases (show j = 0 ∨ j = 1 ∨ j = 2 by omega) with rfl | rfl | rfl
      ·exact ⟨a0, a1⟩
      ·exact ⟨b0, b1⟩
      ·exact ⟨c0, c1⟩
     rw [eL] at L1 L2 L3
     refine zay (hK19 _ _ ?_)
     refine zam fun K20 hK20 => ?_
     refine zaz ?_
     refine zac hp zaj hc rfl fun K21 hK21 => ?_
     simp -dsimp -implicitDefEqProofs (disch := first | assumption | omega | (simp only [r_z, zai, zad, zag, zal] <;> omega) | decide) only [r_r, ↓reduceIte, Nat.reduceEqDiff, Nat.reduceAdd, D.fix, Int.reduceToNat, Nat.reduceMul, Nat.reduceBNe, Nat.reduceBEq, r_m, zbe, zbh, zbl, zbk, shD, gA, zb1, zbw, eo, zcc, zf8]
     refine hK21 _ _ ?_
     refine zam fun K22 hK22 => ?_
     refine zac hp zaj hc rfl fun K23 hK23 => ?_
     simp -dsimp -implicitDefEqProofs (disch := first | assumption | omega | (simp only [r_z, zai, zad, zag, zal] <;> omega) | decide) only [r_r, ↓reduceIte, Nat.reduceEqDiff, Nat.reduceAdd, D.fix, Int.reduceToNat, Nat.reduceMul, Nat.reduceBNe, Nat.reduceBEq, r_m, zbe, zbh, zbl, zbk, shD, gA, zb1, zbw, L1, zf8]
     refine hK23 _ _ ?_
     refine zaz ?_
     refine za7 hp (fun τ' H' mm => ∃ (i : Nat) (ts3 : List T) (μu3 μm3 : Mp) (us : List T), (i ≤ L ∧ MS V ts3 μu3 μm3 ∧ ts2 <+: ts3 ∧ ts3.length ≤ ts2.length + i * 2 ^ V ∧ us.length = 8 ∧ (∀ t ∈ us, t ∈ zbq ts3) ∧ (∀ q, q < i → ∀ a, (nth us q).eval a = if (nth fs o.toNat).eval a then (nth ws (2 * q + 1)).eval a else (nth ws (2 * q)).eval a) ∧ ∀ q, i ≤ q → nth us q = nth ws q) ∧ mm = L - i ∧ H' = zbl ts3 μu3 μm3 base sh fs ++ [.cells (gA g), .cells (avs (us.map (zb1 ts3))), .cells (avs (l3.map iD))] ∧ τ' = frL [(0, .op 4 0), (7, .os 1 8 0 (2 * L)), (10, .d (iD o)), (84, .os 1 9 0 3), (85, .d (iD 3)), (86, .d (iD j)), (92, .d (iD L)), (93, .d (iD i))]) (L) ?_ ⟨0, ts2, μu2, μm2, ws, ⟨Nat.zero_le _, hS2, List.prefix_refl _, by omega, hv8, hvf, fun q hq => absurd hq (by omega), fun q _ => rfl⟩, rfl, rfl, rfl⟩ ?_
     ·refine Rt.trans (Rt.gc (keep := [0,1,2,3,4,5,6,7,8,9]) (by decide) (by decide) (by simp [fzH, gcH])) ?_
      refine Rt.end (by repeat (first | exact zak _ | refine zah ?_ (by first | rfl | (simp [r_f, zai, zad, zag, zal, shD]; done) | simp [r_f, zai, zad, zag, zal, shD, *]))) ?_
      first | rfl | (simp only [r_g, Nat.reduceAdd, ↓reduceIte, Nat.reduceEqDiff, r_m, zbe, zbh, zbl, zbk, shD, gA, zb1, zbw]; first | done | rfl)
     rintro τ' H' mm ⟨i, ts3, μu3, μm3, us, ⟨hi', hS3, hp3, hl3, hu8, huf, hue, hur⟩, rfl, rfl, rfl⟩
     refine zac hp zaj hc rfl fun K24 hK24 => ?_
     simp -dsimp -implicitDefEqProofs (disch := first | assumption | omega | (simp only [r_z, zai, zad, zag, zal] <;> omega) | decide) only [r_r, ↓reduceIte, Nat.reduceEqDiff, Nat.reduceAdd, D.fix, Int.reduceToNat, Nat.reduceMul, Nat.reduceBNe, Nat.reduceBEq, r_m, zbe, zbh, zbl, zbk, shD, gA, zb1, zbw, zf8]
     refine hK24 _ _ ?_
     refine zam fun K25 hK25 => ?_
     refine zaq rfl (fun ht => ?_) (fun ht => ?_)
     ·have hil : i < L := by simp at ht; omega
      have x1 : (2 * (i : Int) + 1).toNat = 2 * i + 1 := by omega
      have x0 : (2 * (i : Int)).toNat = 2 * i := by omega
      have hu1 : nth us (2 * i + 1) ∈ zbq ts3 := huf _ (zb3 (by omega))
      have hu0 : nth us (2 * i) ∈ zbq ts3 := huf _ (zb3 (by omega))
      have hfs3 : ∀ t ∈ fs, t ∈ zbq ts3 := fun t h => zcb (hp2.trans hp3) (hfs t h)
      have hff : nth fs o.toNat ∈ zbq ts3 := hfs3 _ (zb3 (by omega))
      have hle : i * 2 ^ V + 2 ^ V ≤ 4 * 2 ^ V := by
       rw [← Nat.succ_mul]; exact Nat.mul_le_mul_right _ (by omega)
      have hle2 : (8 - 8 / 2 ^ j) * 2 ^ V ≤ 7 * 2 ^ V := Nat.mul_le_mul_right _ (by omega)
      refine zay (hK25 _ _ ?_)
      refine zam fun K26 hK26 => ?_
      refine zaz ?_
      refine zac hp zaj hc rfl fun K27 hK27 => ?_
      simp -dsimp -implicitDefEqProofs (disch := first | assumption | omega | (simp only [r_z, zai, zad, zag, zal] <;> omega) | decide) only [r_r, ↓reduceIte, Nat.reduceEqDiff, Nat.reduceAdd, D.fix, Int.reduceToNat, Nat.reduceMul, Nat.reduceBNe, Nat.reduceBEq, r_m, zbe, zbh, zbl, zbk, shD, gA, zb1, zbw]
      refine hK27 _ _ ?_
      refine znf zaj hp hc mixed rfl [(0, []), (1, []), (2, []), (3, []), (4, []), (5, []), (6, []), (7, []), (8, []), (9, []), (10, []), (11, []), (12, []), (13, []), (14, []), (15, []), (16, []), (17, []), (18, []), (19, []), (20, []), (21, []), (22, []), (23, []), (24, []), (25, []), (26, [])] [[], [], [], [2], [2, 3], [2, 3, 4], [], [6], [6, 7], [6, 7, 8], [], [6, 7, 8, 9, 10], [6, 7, 8, 9, 10, 11], [], [], [14], [14, 15], [13, 14, 15, 16], [13, 14, 15, 16, 17], [], [], [20], [19, 20, 21], [19, 20, 21, 22], [2, 3, 4, 5, 6, 7, 8, 9, 10, 11, 12, 13, 14, 15, 16, 17, 18, 19, 20, 21, 22, 23], [0, 1, 2, 3, 4, 5, 6, 7, 8, 9, 10, 11, 12, 13, 14, 15, 16, 17, 18, 19, 20, 21, 22, 23, 24], [0, 1, 2, 3, 4, 5, 6, 7, 8, 9, 10, 11, 12, 13, 14, 15, 16, 17, 18, 19, 20, 21, 22, 23, 24, 25]] 0 (by kernel_rfl) fun K28 hK28 => ?_
      simp -dsimp -implicitDefEqProofs (disch := first | assumption | omega | (simp only [r_z, zai, zad, zag, zal] <;> omega) | decide) only [r_r, ↓reduceIte, Nat.reduceEqDiff, Nat.reduceAdd, D.fix, Int.reduceToNat, Nat.reduceMul, Nat.reduceBNe, Nat.reduceBEq, r_w, r_m, zbe, zbh, zbl, zbk, shD, gA, zb1, zbw, x1, x0, zf8]
      refine znh (S := zbe ts3 μu3 μm3) (T := zbk ts3 base sh fs ++ [.cells (gA g), .cells (avs (us.map (zb1 ts3))), .cells (avs (l3.map iD))]) (zn2 hS3 hff hu1 hu0 (by unfold zel; omega) rfl rfl rfl) rfl (Nat.le_of_ble_eq_true rfl) (by first | rfl | (simp [AV.allIs, AV.allI, za1, zat, zau, okI, ltI, zao, zbb, zbe, zbh, zbk, gA]; done) | (intro o ho; simp at ho; done)) (fun t => zbr (by first | rfl | (simp [AV.allIs, AV.allI, za1, zat, zau, okI, ltI, zao, zbb, zbe, zbh, zbk, gA]; done) | (intro o ho; simp at ho; done)) t) (fun t => zbr (by first | rfl | (simp [AV.allIs, AV.allI, za1, zat, zau, okI, ltI, zao, zbb, zbe, zbh, zbk, gA]; done) | (intro o ho; simp at ho; done)) t) (by first | rfl | (simp [AV.allIs, AV.allI, za1, zat, zau, okI, ltI, zao, zbb, zbe, zbh, zbk, gA]; done) | (intro o ho; simp at ho; done)) (by first | rfl | (simp [AV.allIs, AV.allI, za1, zat, zau, okI, ltI, zao, zbb, zbe, zbh, zbk, gA]; done) | (intro o ho; simp at ho; done)) (by first | rfl | (simp [AV.allIs, AV.allI, za1, zat, zau, okI, ltI, zao, zbb, zbe, zbh, zbk, gA]; done) | (intro o ho; simp at ho; done)) ?_
      rintro _ _ ⟨ts4, μu4, μm4, t4, rfl, rfl, hS4, hp4, hl4, hm4, hi4⟩
      refine ⟨rfl, ?_⟩
      simp -dsimp -implicitDefEqProofs (disch := first | assumption | omega | (simp only [r_z, zai, zad, zag, zal] <;> omega) | decide) only [r_r, ↓reduceIte, Nat.reduceEqDiff, Nat.reduceAdd, D.fix, Int.reduceToNat, Nat.reduceMul, Nat.reduceBNe, Nat.reduceBEq, r_w, r_m, zbe, zbh, zbl, zbk, shD, gA, zb1, zbw, x1, x0, zf8]
      refine hK28 _ _ (hK26 _ _ ?_)
      refine zbo hp zaj hc rfl fun K29 hK29 => ?_
      simp -dsimp -implicitDefEqProofs (disch := first | assumption | omega | (simp only [r_z, zai, zad, zag, zal] <;> omega) | decide) only [r_r, ↓reduceIte, Nat.reduceEqDiff, Nat.reduceAdd, D.fix, Int.reduceToNat, Nat.reduceMul, Nat.reduceBNe, Nat.reduceBEq, r_m, zbe, zbh, zbl, zbk, shD, gA, zb1, zbw, zf8]
      have hn1' : ∀ t ∈ us.set i t4, t ∈ zbq ts4 := fun t h => by
       rcases List.mem_or_eq_of_mem_set h with h | rfl
       ·exact zcb hp4 (huf t h)
       ·exact hm4
      have hn2' : ∀ q, q < i + 1 → ∀ a, (nth (us.set i t4) q).eval a = if (nth fs o.toNat).eval a then (nth ws (2 * q + 1)).eval a else (nth ws (2 * q)).eval a := fun q hq a => by
       by_cases e : i = q
       ·subst e
        rw [zg3 (by omega), hi4 a, hur (2 * i + 1) (by omega), hur (2 * i) (by omega)]
       ·rw [zfz e]; exact hue q (by omega) a
      have hn3' : ∀ q, i + 1 ≤ q → nth (us.set i t4) q = nth ws q := fun q hq => by
       rw [zfz (by omega)]; exact hur q (by omega)
      refine hK29 _ _ ⟨_, _, _, ?_, ⟨i + 1, ts4, μu4, μm4, us.set i t4, ⟨by omega, hS4, hp3.trans hp4, by rw [Nat.succ_mul]; omega, by simpa using hu8, hn1', hn2', hn3'⟩, rfl, rfl, rfl⟩, ?_⟩
      ·first | omega | (simp only [List.length_cons]; omega) | (dsimp only; omega)
      ·refine Rt.trans (Rt.gc (keep := [0,1,2,3,4,5,6,7,8,9]) (by decide) (by decide) (by simp [fzH, gcH])) ?_
       refine Rt.end (by repeat (first | exact zak _ | refine zah ?_ (by first | rfl | (simp [r_f, zai, zad, zag, zal, shD]; done) | simp [r_f, zai, zad, zag, zal, shD, *]))) ?_
       simp only [r_g, Nat.reduceAdd, ↓reduceIte, Nat.reduceEqDiff, r_m, zbe, zbh, zbl, zbk, shD, gA, zb1, zbw]; rw [zdz hp4 hfs3, ← zxy, zdz hp4 huf]; rfl
     ·have hil : i = L := by simp at ht; omega
      subst hil
      refine zbj (hK22 _ _ ?_)
      refine zbo hp zaj hc rfl fun K30 hK30 => ?_
      simp -dsimp -implicitDefEqProofs (disch := first | assumption | omega | (simp only [r_z, zai, zad, zag, zal] <;> omega) | decide) only [r_r, ↓reduceIte, Nat.reduceEqDiff, Nat.reduceAdd, D.fix, Int.reduceToNat, Nat.reduceMul, Nat.reduceBNe, Nat.reduceBEq, r_m, zbe, zbh, zbl, zbk, shD, gA, zb1, zbw, zf8]
      refine hK30 _ _ (hK20 _ _ ?_)
      refine zbo hp zaj hc rfl fun K31 hK31 => ?_
      simp -dsimp -implicitDefEqProofs (disch := first | assumption | omega | (simp only [r_z, zai, zad, zag, zal] <;> omega) | decide) only [r_r, ↓reduceIte, Nat.reduceEqDiff, Nat.reduceAdd, D.fix, Int.reduceToNat, Nat.reduceMul, Nat.reduceBNe, Nat.reduceBEq, r_m, zbe, zbh, zbl, zbk, shD, gA, zb1, zbw, zf8]
      have hq1 : ts3.length ≤ ts.length + 8 + (8 - 8 / 2 ^ (j + 1)) * 2 ^ V := by
       have : (8 - 8 / 2 ^ (j + 1)) * 2 ^ V = (8 - 8 / 2 ^ j) * 2 ^ V + i * 2 ^ V := by rw [← Nat.add_mul, eL, L1]; congr 1; have : 8 / 2 ^ j ≤ 8 := Nat.div_le_self _ _; omega
       omega
      have hq2 : ∀ q, q < 8 / 2 ^ (j + 1) → ∀ a, (nth us q).eval a = (decide (q * 2 ^ (j + 1) + low fs l3 a (j + 1) < (nth sh k).1) && a (zbz base sh k + (q * 2 ^ (j + 1) + low fs l3 a (j + 1)) * (nth sh k).2 + b)) := fun q hq a => by
       rw [eL] at hq
       rw [hue q hq a, hve _ (by omega), hve _ (by omega)]
       have e3 : 2 ^ (j + 1) = 2 * 2 ^ j := by rw [Nat.pow_succ]; omega
       have e4 : low fs l3 a (j + 1) = low fs l3 a j + if (nth fs o.toNat).eval a then 2 ^ j else 0 := by rw [← eo]; rfl
       rw [e4, e3]
       have e5 : q * (2 * 2 ^ j) = 2 * q * 2 ^ j := by rw [← Nat.mul_assoc, Nat.mul_comm q 2]
       cases (nth fs o.toNat).eval a with
       | true =>
        have : (2 * q + 1) * 2 ^ j + low fs l3 a j = q * (2 * 2 ^ j) + (low fs l3 a j + 2 ^ j) := by rw [e5, Nat.succ_mul]; omega
        simp only [if_true, this]
       | false =>
        have : 2 * q * 2 ^ j + low fs l3 a j = q * (2 * 2 ^ j) + (low fs l3 a j + 0) := by rw [e5]; omega
        simp only [Bool.false_eq_true, if_false, this]
      refine hK31 _ _ ⟨_, _, _, ?_, ⟨j + 1, ts3, μu3, μm3, us, ⟨by omega, hS3, hp2.trans hp3, hq1, hu8, huf, hq2⟩, rfl, rfl, rfl⟩, ?_⟩
      ·first | omega | (simp only [List.length_cons]; omega) | (dsimp only; omega)
      ·refine Rt.trans (Rt.gc (keep := [0,1,2,3,4,5,6,7,8,9]) (by decide) (by decide) (by simp [fzH, gcH])) ?_
       refine Rt.end (by repeat (first | exact zak _ | refine zah ?_ (by first | rfl | (simp [r_f, zai, zad, zag, zal, shD]; done) | simp [r_f, zai, zad, zag, zal, shD, *]))) ?_
       first | rfl | (simp only [r_g, Nat.reduceAdd, ↓reduceIte, Nat.reduceEqDiff, r_m, zbe, zbh, zbl, zbk, shD, gA, zb1, zbw]; first | done | rfl)
    ·have hj3 : j = 3 := by simp at ht; omega
     subst hj3
     refine zbj (hK16 _ _ ?_)
     refine zac hp zaj hc rfl fun K32 hK32 => ?_
     simp -dsimp -implicitDefEqProofs (disch := first | assumption | omega | (simp only [r_z, zai, zad, zag, zal] <;> omega) | decide) only [r_r, ↓reduceIte, Nat.reduceEqDiff, Nat.reduceAdd, D.fix, Int.reduceToNat, Nat.reduceMul, Nat.reduceBNe, Nat.reduceBEq, r_m, zbe, zbh, zbl, zbk, shD, gA, zb1, zbw, zcc, zf8]
     refine hK32 _ _ ?_
     refine zb2 hp (τ' := frL [(4, .d (iD (num ts2 (nth ws 0))))]) (H' := zbl ts2 μu2 μm2 base sh fs) ?_ ?_
     ·refine Rt.trans (Rt.gc (keep := [0,1,2,3,4,5,6]) (by decide) (by decide) (by simp [fzH, gcH])) ?_
      refine Rt.end (by repeat (first | exact zak _ | refine zah ?_ (by first | rfl | (simp [r_f, zai, zad, zag, zal, shD]; done) | simp [r_f, zai, zad, zag, zal, shD, *]))) ?_
      first | rfl | (simp only [r_g, Nat.reduceAdd, ↓reduceIte, Nat.reduceEqDiff, r_m, zbe, zbh, zbl, zbk, shD, gA, zb1, zbw]; first | done | rfl)
     refine za4 ?_
     refine zbp (t := 4) rfl ?_
     show ∃ _, _
     refine ⟨ts2, μu2, μm2, nth ws 0, rfl, rfl, hS2, hp2, by omega, hvf _ (zb3 (by omega)), fun a => ?_⟩
     rw [hve 0 (by decide) a, hl3]
     unfold zsy
     rw [hn8, ek, eb, decide_eq_true q, decide_eq_true q']; simp
end Go.Proofs.Ytignimmnnccblaa
