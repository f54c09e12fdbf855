/- The builder: its tables, and what it reads. -/
import Derived.Test.YtignimmnnccblaaQr
import Derived.Test.YtignimmnnccblaaCc
import Derived.Test.YtignimmnnccblaaDa
set_option linter.unusedVariables false
set_option linter.unusedSimpArgs false
set_option maxRecDepth 100000
set_option maxHeartbeats 4000000
namespace Go.Proofs.Ytignimmnnccblaa
open Go Go.RowKit
theorem zfw : ((((((type_of% @zjf) ∧ (type_of% @zjg)) ∧ ((type_of% @zlk) ∧ (type_of% @zll))) ∧ (((type_of% @ze4) ∧ (type_of% @ze5)) ∧ ((type_of% @ze7) ∧ ((type_of% @zwu) ∧ (type_of% @zwv))))) ∧ ((((type_of% @zoy) ∧ (type_of% @zoz)) ∧ ((type_of% @zfd) ∧ (type_of% @zfe))) ∧ (((type_of% @zff) ∧ (type_of% @zfg)) ∧ ((type_of% @zkn) ∧ ((type_of% @zko) ∧ (type_of% @zkp)))))) ∧ (((((type_of% @zdm) ∧ (type_of% @zdn)) ∧ ((type_of% @zdo) ∧ (type_of% @zdv))) ∧ (((type_of% @zi4) ∧ (type_of% @zi5)) ∧ ((type_of% @zhm) ∧ ((type_of% @zhn) ∧ (type_of% @zmn))))) ∧ ((((type_of% @zmo) ∧ (type_of% @zgk)) ∧ ((type_of% @zgl) ∧ (type_of% @zgm))) ∧ (((type_of% @zgn) ∧ (type_of% @zgo)) ∧ ((type_of% @zgp) ∧ ((type_of% @zi6) ∧ (type_of% @zi7))))))) := ⟨⟨⟨⟨⟨@zjf, @zjg⟩, ⟨@zlk, @zll⟩⟩, ⟨⟨@ze4, @ze5⟩, ⟨@ze7, ⟨@zwu, @zwv⟩⟩⟩⟩, ⟨⟨⟨@zoy, @zoz⟩, ⟨@zfd, @zfe⟩⟩, ⟨⟨@zff, @zfg⟩, ⟨@zkn, ⟨@zko, @zkp⟩⟩⟩⟩⟩, ⟨⟨⟨⟨@zdm, @zdn⟩, ⟨@zdo, @zdv⟩⟩, ⟨⟨@zi4, @zi5⟩, ⟨@zhm, ⟨@zhn, @zmn⟩⟩⟩⟩, ⟨⟨⟨@zmo, @zgk⟩, ⟨@zgl, @zgm⟩⟩, ⟨⟨@zgn, @zgo⟩, ⟨@zgp, ⟨@zi6, @zi7⟩⟩⟩⟩⟩⟩
theorem zn2 {V : Nat} {ts : List T} {μu μm : Mp} {f g h : T} {nf ng nh : Int} (hS : MS V ts μu μm) (hf : f ∈ zbr ts) (hg : g ∈ zbr ts) (hh : h ∈ zbr ts) (hlen : ts.length + 2 ^ V ≤ zel) (e1 : nf = num ts f) (e2 : ng = num ts g) (e3 : nh = num ts h) :
  ScS Try.prog [0, 1, 2] 71 [.op 0 0, .d (.val (.int .i64 nf)), .d (.val (.int .i64 ng)), .d (.val (.int .i64 nh))] (zba ts μu μm) (jsm V (2 ^ V) ts f g h) := by
 subst e1 e2 e3
 have z : V - V = 0 := Nat.sub_self V
 exact jso V V ts μu μm f g h hS hf hg hh (by rw [z]; exact hS.row.okf hf) (by rw [z]; exact hS.row.okf hg) (by rw [z]; exact hS.row.okf hh) hlen
def zqe (v : Nat) : T := .node v (.leaf false) (.leaf true)
theorem jqo {V : Nat} {ts : List T} {μu μm : Mp} {v : Nat} {nv : Int} (hS : MS V ts μu μm) (hv : v < V) (hlen : ts.length < zel) (e : nv = v) :
  ScS Try.prog [0, 1, 2] 66 [.op 0 0, .d (.val (.int .i64 nv)), .d (.val (.int .i64 0)), .d (.val (.int .i64 1))] (zba ts μu μm) (jqb V ts μm (zqe v)) := by
 subst e
 have c := jjk V ts μu μm hS v (.leaf false) (.leaf true) hv (zhr _) (zp2 _) trivial trivial hlen
 rw [zje, zp1] at c
 exact c
abbrev Sh := List (Nat × Nat)
def shC (p : Nat × Nat) : List D := [iD p.1, iD p.2]
def shD (sh : Sh) : D := .fs (sh.flatMap shC) sh.length
theorem jma (p : Nat × Nat) : (shC p).length = 2 := rfl
section
variable {l : Sh} {k : Nat}
theorem jjl (h : k < l.length) : zcj (l.flatMap shC) (k * 2) 2 = some (shC (nth l k)) := zhc jma h
theorem jf7 (h : k < l.length) : (l.flatMap shC)[k * 2]? = some (iD (nth l k).1) := (zi0 (j := 0) jma h (by omega)).trans rfl
theorem jf8 (h : k < l.length) : (l.flatMap shC)[k * 2 + 1]? = some (iD (nth l k).2) := (zi0 (j := 1) jma h (by omega)).trans rfl
theorem zae : (l.flatMap shC).length = l.length * 2 := zeu jma l
end
theorem jqp (l : Sh) : (l.flatMap shC).map D.fix = l.flatMap shC := zmj (fun _ => rfl) l
structure ShOk (sh : Sh) : Prop where
 len : sh.length ≤ 8
 el : ∀ k, k < sh.length → (nth sh k).1 ≤ 8 ∧ (nth sh k).2 ≤ 8
def zbv (base : Nat) (sh : Sh) (k : Nat) : Nat := base + ((sh.take k).map fun p => p.1 * p.2).sum
def znn (base : Nat) (sh : Sh) : List Nat := (List.range sh.length).map (zbv base sh)
theorem zaj (base : Nat) (sh : Sh) : (znn base sh).length = sh.length := by simp [znn]
theorem zlm {base : Nat} {sh : Sh} {k : Nat} (h : k < sh.length) : nth (znn base sh) k = zbv base sh k := zcb h
def zc3 (base : Nat) (sh : Sh) : Nat := zbv base sh sh.length
theorem zep {base : Nat} {sh : Sh} {k : Nat} (h : k < sh.length) : zbv base sh (k + 1) = zbv base sh k + (nth sh k).1 * (nth sh k).2 := by
 unfold zbv; rw [zdx h]; simp; omega
theorem zqf {base : Nat} {sh : Sh} : ∀ {d k : Nat}, k + d ≤ sh.length → zbv base sh k ≤ zbv base sh (k + d)
 | 0, k, _ => Nat.le_refl _
 | d + 1, k, h => by
  have := zqf (base := base) (sh := sh) (d := d) (k := k) (by omega)
  rw [show k + (d + 1) = (k + d) + 1 by omega, zep (by omega)]; omega
theorem zxq {base : Nat} {sh : Sh} {k i b : Nat} (hk : k < sh.length) (hi : i < (nth sh k).1) (hb : b < (nth sh k).2) : zbv base sh k + i * (nth sh k).2 + b < zc3 base sh := by
 have h1 := zep (base := base) hk
 have h2 := zqf (base := base) (sh := sh) (d := sh.length - (k + 1)) (k := k + 1) (by omega)
 rw [show k + 1 + (sh.length - (k + 1)) = sh.length by omega] at h2
 have h3 : i * (nth sh k).2 + (nth sh k).2 ≤ (nth sh k).1 * (nth sh k).2 := by
  have := Nat.mul_le_mul_right (nth sh k).2 (Nat.succ_le_of_lt hi)
  rwa [Nat.succ_mul] at this
 unfold zc3; omega
def zso (base : Nat) (sh : Sh) (n x : Nat) (a : Nat → Bool) : Bool := decide (n / 8 < sh.length) && (decide (n % 8 < (nth sh (n / 8)).2) && (decide (x < (nth sh (n / 8)).1) && a (zbv base sh (n / 8) + x * (nth sh (n / 8)).2 + n % 8)))
def zb2 (ts : List T) (t : T) : D := iD (num ts t)
def zbz (n : Nat) : D := iD n
theorem zdy {ts us fs : List T} (hp : ts <+: us) (h : ∀ t ∈ fs, t ∈ zbr ts) : fs.map (zb2 us) = fs.map (zb2 ts) := List.map_congr_left fun t ht => by unfold zb2; rw [zdp hp (h t ht)]
theorem zxr {ts : List T} {l : List T} {k : Nat} {t : T} : (l.map (zb2 ts)).set k (.val (.int .i64 (num ts t))) = (l.set k t).map (zb2 ts) := by rw [List.map_set]; rfl
def gA (g : Gate) : List AV := [.d (iD g.op), .d (iD g.a), .d (iD g.b), .d (iD g.c), .d (iD g.n)]
def zbk (ts : List T) (base : Nat) (sh : Sh) (fs : List T) : zap := [.cells [.op 0 0, .os 1 6 0 sh.length, .d (shD sh), .os 1 5 0 fs.length], .cells (avs (fs.map (zb2 ts))), .cells (avs ((znn base sh).map zbz))]
def zbm (ts : List T) (μu μm : Mp) (base : Nat) (sh : Sh) (fs : List T) : zap := zba ts μu μm ++ zbk ts base sh fs
def jtu (V b : Nat) (ts : List T) (base : Nat) (sh : Sh) (fs : List T) (sem : (Nat → Bool) → Bool) (x : AV) (S' : zap) : Prop :=
 ∃ ts' μu' μm' t, S' = zbm ts' μu' μm' base sh fs ∧ x = .d (iD (num ts' t)) ∧ MS V ts' μu' μm' ∧ ts <+: ts' ∧ ts'.length ≤ ts.length + b ∧ t ∈ zbr ts' ∧ ∀ a, t.eval a = sem a
def low (fs : List T) (l : List Int) (a : Nat → Bool) : Nat → Nat
 | 0 => 0
 | j + 1 => low fs l a j + if (nth fs (nth l j).toNat).eval a then 2 ^ j else 0
structure GOp (m : Nat) (g : Gate) : Prop where
 a0 : 0 ≤ g.a
 a1 : g.a < m
 b0 : 0 ≤ g.b
 b1 : g.b < m
 c0 : 0 ≤ g.c
 c1 : g.c < m
 n0 : 0 ≤ g.n
 n1 : g.n < 1000000
theorem jkx {α : Type} [Inhabited α] {n j : Nat} {x : α} (h : j < n) : nth (List.replicate n x) j = x := by rw [zb6 (by simpa using h)]; simp
theorem lvl {j : Nat} (h : j < 3) : 8 / 2 ^ j = 2 * (8 / 2 ^ (j + 1)) ∧ 8 / 2 ^ (j + 1) ≤ 4 ∧ 1 ≤ 8 / 2 ^ (j + 1) := by
 rcases (show j = 0 ∨ j = 1 ∨ j = 2 by omega) with rfl | rfl | rfl <;> decide
theorem jky (V base : Nat) (sh : Sh) (fs : List T) (ts : List T) (μu μm : Mp) (g : Gate) (hS : MS V ts μu μm) (hsh : ShOk sh) (hV : zc3 base sh ≤ V) (hfs : ∀ t ∈ fs, t ∈ zbr ts) (hfl : fs.length ≤ 1000000) (hg : GOp fs.length g) (hlen : ts.length + 32 * 2 ^ V ≤ zel) : ScS Try.prog [0, 1, 2, 4, 5, 6] 72 [.op 4 0, .agg (gA g)] (zbm ts μu μm base sh fs) (jtu V (8 + 7 * 2 ^ V) ts base sh fs fun a => zso base sh g.n.toNat (low fs [g.a, g.b, g.c] a 3) a) := by
 refine zha (fn := Try.f72) (by kernel_rfl) Try.func72 rfl (Nat.le_of_ble_eq_true rfl) fun c hc hp => ?_
 refine jbk ?_
 have hpos : 0 < 2 ^ V := Nat.two_pow_pos V
 unfold zel at hlen
 have hV9 := hS.V0
 have hs8 := hsh.len
 obtain ⟨a0, a1, b0, b1, c0, c1, n0, n1⟩ := hg
 obtain ⟨n, hn⟩ : ∃ n : Nat, g.n = n := ⟨g.n.toNat, by omega⟩
 have hk : g.n / 8 = ((n / 8 : Nat) : Int) := by omega
 have hb : g.n % 8 = ((n % 8 : Nat) : Int) := by omega
 obtain ⟨k, ek⟩ : ∃ k : Nat, n / 8 = k := ⟨_, rfl⟩
 obtain ⟨b, eb⟩ : ∃ b : Nat, n % 8 = b := ⟨_, rfl⟩
 rw [ek] at hk
 rw [eb] at hb
 have hn8 : g.n.toNat = n := by omega
 refine zac hp zak hc rfl fun K1 hK1 => ?_
 simp -dsimp -implicitDefEqProofs (disch := first | assumption | omega | (simp only [r_z, zah, zad, zae, zaj] <;> omega) | decide) only [r_r, ↓reduceIte, Nat.reduceEqDiff, Nat.reduceAdd, D.fix, Int.reduceToNat, Nat.reduceMul, Nat.reduceBNe, Nat.reduceBEq, r_m, zba, zbe, zbm, zbk, shD, gA, zb2, zbz, zfw]
 refine hK1 _ _ ?_
 refine zbp zak hc mixed rfl (q := 0) (by kernel_rfl) (by kernel_rfl) fun K2 hK2 => ?_
 simp -dsimp -implicitDefEqProofs (disch := first | assumption | omega | (simp only [r_z, zah, zad, zae, zaj] <;> omega) | decide) only [r_r, ↓reduceIte, Nat.reduceEqDiff, Nat.reduceAdd, D.fix, Int.reduceToNat, Nat.reduceMul, Nat.reduceBNe, Nat.reduceBEq, r_m, zba, zbe, zbm, zbk, shD, gA, zb2, zbz, hk, hb, zfw]
 refine hK2 _ _ ?_
 refine zao fun K3 hK3 => ?_
 refine zac hp zak hc rfl fun K4 hK4 => ?_
 rcases (show sh.length ≤ k ∨ (k < sh.length ∧ (nth sh k).2 ≤ b) ∨ (k < sh.length ∧ b < (nth sh k).2) by omega) with q | ⟨q, q'⟩ | ⟨q, q'⟩
 ·have q1 : decide ((sh.length : Int) ≤ (k : Int)) = true := by simp; omega
  have q2 := q1
  simp -dsimp -implicitDefEqProofs (disch := first | assumption | omega | (simp only [r_z, zah, zad, zae, zaj] <;> omega) | decide) only [r_r, ↓reduceIte, Nat.reduceEqDiff, Nat.reduceAdd, D.fix, Int.reduceToNat, Nat.reduceMul, Nat.reduceBNe, Nat.reduceBEq, r_m, zba, zbe, zbm, zbk, shD, gA, zb2, zbz, q1, q2, jf7, jf8, zfw]
  refine hK4 _ _ ?_
  refine zaq rfl (fun ht => ?_) (fun ht => ?_)
  ·refine zac hp zak hc rfl fun K5 hK5 => ?_
   simp -dsimp -implicitDefEqProofs (disch := first | assumption | omega | (simp only [r_z, zah, zad, zae, zaj] <;> omega) | decide) only [r_r, ↓reduceIte, Nat.reduceEqDiff, Nat.reduceAdd, D.fix, Int.reduceToNat, Nat.reduceMul, Nat.reduceBNe, Nat.reduceBEq, r_m, zba, zbe, zbm, zbk, shD, gA, zb2, zbz]
   refine hK5 _ _ ?_
   refine zb3 hp (τ' := frL [(4, .d (iD 0))]) (H' := zbm ts μu μm base sh fs) ?_ ?_
   ·refine Rt.trans (Rt.gc (keep := [0,1,2,3,4,5,6]) (by decide) (by decide) (by simp [fzH, gcH])) ?_
    refine Rt.end (by repeat (first | exact zam _ | refine zai ?_ (by first | rfl | (simp [r_f, zah, zad, zae, zaj, shD]; done) | simp [r_f, zah, zad, zae, zaj, shD, *]))) ?_
    first | rfl | (simp only [r_g, Nat.reduceAdd, ↓reduceIte, Nat.reduceEqDiff, r_m, zba, zbe, zbm, zbk, shD, gA, zb2, zbz]; first | done | rfl)
   refine za4 ?_
   refine zbq (t := 4) rfl ?_
   show ∃ _, _
   refine ⟨ts, μu, μm, .leaf false, rfl, by rw [zje]; rfl, hS, List.prefix_refl _, by omega, zhr _, fun a => ?_⟩
   unfold zso
   rw [hn8, ek, decide_eq_false (by omega)]; rfl
  ·cases ht
 ·have q1 : decide ((sh.length : Int) ≤ (k : Int)) = false := by simp; omega
  have q2 : decide (((nth sh k).2 : Int) ≤ (b : Int)) = true := by simp; omega
  simp -dsimp -implicitDefEqProofs (disch := first | assumption | omega | (simp only [r_z, zah, zad, zae, zaj] <;> omega) | decide) only [r_r, ↓reduceIte, Nat.reduceEqDiff, Nat.reduceAdd, D.fix, Int.reduceToNat, Nat.reduceMul, Nat.reduceBNe, Nat.reduceBEq, r_m, zba, zbe, zbm, zbk, shD, gA, zb2, zbz, q1, q2, jf7, jf8, zfw]
  refine hK4 _ _ ?_
  refine zaq rfl (fun ht => ?_) (fun ht => ?_)
  ·refine zac hp zak hc rfl fun K6 hK6 => ?_
   simp -dsimp -implicitDefEqProofs (disch := first | assumption | omega | (simp only [r_z, zah, zad, zae, zaj] <;> omega) | decide) only [r_r, ↓reduceIte, Nat.reduceEqDiff, Nat.reduceAdd, D.fix, Int.reduceToNat, Nat.reduceMul, Nat.reduceBNe, Nat.reduceBEq, r_m, zba, zbe, zbm, zbk, shD, gA, zb2, zbz]
   refine hK6 _ _ ?_
   refine zb3 hp (τ' := frL [(4, .d (iD 0))]) (H' := zbm ts μu μm base sh fs) ?_ ?_
   ·refine Rt.trans (Rt.gc (keep := [0,1,2,3,4,5,6]) (by decide) (by decide) (by simp [fzH, gcH])) ?_
    refine Rt.end (by repeat (first | exact zam _ | refine zai ?_ (by first | rfl | (simp [r_f, zah, zad, zae, zaj, shD]; done) | simp [r_f, zah, zad, zae, zaj, shD, *]))) ?_
    first | rfl | (simp only [r_g, Nat.reduceAdd, ↓reduceIte, Nat.reduceEqDiff, r_m, zba, zbe, zbm, zbk, shD, gA, zb2, zbz]; first | done | rfl)
   refine za4 ?_
   refine zbq (t := 4) rfl ?_
   show ∃ _, _
   refine ⟨ts, μu, μm, .leaf false, rfl, by rw [zje]; rfl, hS, List.prefix_refl _, by omega, zhr _, fun a => ?_⟩
   unfold zso
   rw [hn8, ek, eb, decide_eq_false (p := b < (nth sh k).2) (by omega)]; simp [T.eval]
  ·cases ht
 ·have q1 : decide ((sh.length : Int) ≤ (k : Int)) = false := by simp; omega
  have q2 : decide (((nth sh k).2 : Int) ≤ (b : Int)) = false := by simp; omega
  simp -dsimp -implicitDefEqProofs (disch := first | assumption | omega | (simp only [r_z, zah, zad, zae, zaj] <;> omega) | decide) only [r_r, ↓reduceIte, Nat.reduceEqDiff, Nat.reduceAdd, D.fix, Int.reduceToNat, Nat.reduceMul, Nat.reduceBNe, Nat.reduceBEq, r_m, zba, zbe, zbm, zbk, shD, gA, zb2, zbz, q1, q2, jf7, jf8, zfw]
  refine hK4 _ _ ?_
  refine zaq rfl (fun ht => ?_) (fun ht => ?_)
  ·cases ht
  ·refine zay (hK3 _ _ ?_)
   refine zac hp zak hc rfl fun K7 hK7 => ?_
   simp -dsimp -implicitDefEqProofs (disch := first | assumption | omega | (simp only [r_z, zah, zad, zae, zaj] <;> omega) | decide) only [r_r, ↓reduceIte, Nat.reduceEqDiff, Nat.reduceAdd, D.fix, Int.reduceToNat, Nat.reduceMul, Nat.reduceBNe, Nat.reduceBEq, r_m, zba, zbe, zbm, zbk, shD, gA, zb2, zbz, zfw]
   refine hK7 _ _ ?_
   refine zao fun K8 hK8 => ?_
   refine zac hp zak hc rfl fun K9 hK9 => ?_
   simp -dsimp -implicitDefEqProofs (disch := first | assumption | omega | (simp only [r_z, zah, zad, zae, zaj] <;> omega) | decide) only [r_r, ↓reduceIte, Nat.reduceEqDiff, Nat.reduceAdd, D.fix, Int.reduceToNat, Nat.reduceMul, Nat.reduceBNe, Nat.reduceBEq, r_m, zba, zbe, zbm, zbk, shD, gA, zb2, zbz, jf7, jf8, zfw]
   refine hK9 _ _ ?_
   refine zaz ?_
   refine zbb hp (fun τ' H' mm => ∃ (i : Nat) (ts' : List T) (μu' μm' : Mp) (ws : List T), (i ≤ (nth sh k).1 ∧ MS V ts' μu' μm' ∧ ts <+: ts' ∧ ts'.length ≤ ts.length + i ∧ ws.length = 8 ∧ ∀ j, j < 8 → nth ws j ∈ zbr ts' ∧ nth ws j = if j < i then zqe (zbv base sh k + j * (nth sh k).2 + b) else .leaf false) ∧ mm = (nth sh k).1 - i ∧ H' = zbm ts' μu' μm' base sh fs ++ [.cells (gA g), .cells (avs (ws.map (zb2 ts')))] ∧ τ' = frL [(0, .op 4 0), (3, .op 7 0), (5, .d (iD k)), (6, .d (iD b)), (7, .os 1 8 0 8), (45, .d (iD (nth sh k).1)), (46, .d (iD i))]) ((nth sh k).1) ?_ ⟨0, ts, μu, μm, List.replicate 8 (.leaf false), ⟨Nat.zero_le _, hS, List.prefix_refl _, by omega, by simp, fun j hj => by rw [jkx hj]; simp [zhr]⟩, rfl, rfl, rfl⟩ ?_
   ·refine Rt.trans (Rt.gc (keep := [0,1,2,3,4,5,6,7,8]) (by decide) (by decide) (by simp [fzH, gcH])) ?_
    refine Rt.end (by repeat (first | exact zam _ | refine zai ?_ (by first | rfl | (simp [r_f, zah, zad, zae, zaj, shD]; done) | simp [r_f, zah, zad, zae, zaj, shD, *]))) ?_
    simp only [r_g, Nat.reduceAdd, ↓reduceIte, Nat.reduceEqDiff, r_m, zba, zbe, zbm, zbk, shD, gA, zb2, zbz]; simp [zb2, zje, iD, List.replicate_succ]; rfl
   rintro τ' H' mm ⟨i, ts', μu', μm', ws, ⟨hi, hS', hp', hl', hw8, hws⟩, rfl, rfl, rfl⟩
   refine zac hp zak hc rfl fun K10 hK10 => ?_
   simp -dsimp -implicitDefEqProofs (disch := first | assumption | omega | (simp only [r_z, zah, zad, zae, zaj] <;> omega) | decide) only [r_r, ↓reduceIte, Nat.reduceEqDiff, Nat.reduceAdd, D.fix, Int.reduceToNat, Nat.reduceMul, Nat.reduceBNe, Nat.reduceBEq, r_m, zba, zbe, zbm, zbk, shD, gA, zb2, zbz, zfw]
   refine hK10 _ _ ?_
   refine zao fun K11 hK11 => ?_
   refine zaq rfl (fun ht => ?_) (fun ht => ?_)
   ·have hlt : i < (nth sh k).1 := by simp at ht; omega
    have hel := hsh.el k q
    have hi8 : i < 8 := by omega
    have hib : (i : Int) * ((nth sh k).2 : Int) ≤ 64 := by
     have := Nat.mul_le_mul (show i ≤ 8 by omega) hel.2
     omega
    have hib0 : 0 ≤ (i : Int) * ((nth sh k).2 : Int) := by
     have : ((i * (nth sh k).2 : Nat) : Int) = (i : Int) * ((nth sh k).2 : Int) := by simp
     omega
    obtain ⟨v, ev⟩ : ∃ v : Nat, zbv base sh k + i * (nth sh k).2 + b = v := ⟨_, rfl⟩
    have hvV : v < V := by have := zxq (base := base) q hlt q'; omega
    have hv' : (zbv base sh k : Int) + (i : Int) * ((nth sh k).2 : Int) + (b : Int) = (v : Int) := by rw [← ev]; simp
    refine zay (hK11 _ _ ?_)
    refine zao fun K12 hK12 => ?_
    refine zaz ?_
    refine zac hp zak hc rfl fun K13 hK13 => ?_
    simp -dsimp -implicitDefEqProofs (disch := first | assumption | omega | (simp only [r_z, zah, zad, zae, zaj] <;> omega) | decide) only [r_r, ↓reduceIte, Nat.reduceEqDiff, Nat.reduceAdd, D.fix, Int.reduceToNat, Nat.reduceMul, Nat.reduceBNe, Nat.reduceBEq, r_m, zba, zbe, zbm, zbk, shD, gA, zb2, zbz]
    refine hK13 _ _ ?_
    refine znh zak hp hc mixed rfl [(0, []), (1, []), (2, []), (3, []), (4, []), (5, []), (6, []), (7, []), (8, []), (9, []), (10, []), (11, []), (12, []), (13, []), (14, []), (15, []), (16, []), (17, []), (18, []), (19, []), (20, []), (21, []), (22, []), (23, []), (24, []), (25, []), (26, []), (27, []), (28, [])] [[], [], [], [2], [2, 3], [2, 3, 4], [], [6], [6, 7], [6, 7, 8], [], [6, 7, 8, 9, 10], [6, 7, 8, 9, 10, 11], [], [], [14], [14, 15], [14, 15, 16], [], [14, 15, 16, 17, 18], [14, 15, 16, 17, 18, 19], [14, 15, 16, 17, 18, 19, 20], [13, 14, 15, 16, 17, 18, 19, 20, 21], [6, 7, 8, 9, 10, 11, 12, 13, 14, 15, 16, 17, 18, 19, 20, 21, 22], [], [6, 7, 8, 9, 10, 11, 12, 13, 14, 15, 16, 17, 18, 19, 20, 21, 22, 23, 24], [2, 3, 4, 5, 6, 7, 8, 9, 10, 11, 12, 13, 14, 15, 16, 17, 18, 19, 20, 21, 22, 23, 24, 25], [0, 1, 2, 3, 4, 5, 6, 7, 8, 9, 10, 11, 12, 13, 14, 15, 16, 17, 18, 19, 20, 21, 22, 23, 24, 25, 26], [0, 1, 2, 3, 4, 5, 6, 7, 8, 9, 10, 11, 12, 13, 14, 15, 16, 17, 18, 19, 20, 21, 22, 23, 24, 25, 26, 27]] 0 (by kernel_rfl) fun K14 hK14 => ?_
    simp -dsimp -implicitDefEqProofs (disch := first | assumption | omega | (simp only [r_z, zah, zad, zae, zaj] <;> omega) | decide) only [r_r, ↓reduceIte, Nat.reduceEqDiff, Nat.reduceAdd, D.fix, Int.reduceToNat, Nat.reduceMul, Nat.reduceBNe, Nat.reduceBEq, r_w, r_m, zba, zbe, zbm, zbk, shD, gA, zb2, zbz, jf7, jf8, zlm q, zfw]
    refine znj (S := zba ts' μu' μm') (T := zbk ts' base sh fs ++ [.cells (gA g), .cells (avs (ws.map (zb2 ts')))]) (jqo (v := v) hS' hvV (by unfold zel; omega) hv') rfl (Nat.le_of_ble_eq_true rfl) (by first | rfl | (simp [AV.allIs, AV.allI, za0, zas, zat, okI, ltI, zan, za8, zba, zbe, zbk, gA]; done) | (intro o ho; simp at ho; done)) (fun t => zbs (by first | rfl | (simp [AV.allIs, AV.allI, za0, zas, zat, okI, ltI, zan, za8, zba, zbe, zbk, gA]; done) | (intro o ho; simp at ho; done)) t) (fun t => zbs (by first | rfl | (simp [AV.allIs, AV.allI, za0, zas, zat, okI, ltI, zan, za8, zba, zbe, zbk, gA]; done) | (intro o ho; simp at ho; done)) t) (by first | rfl | (simp [AV.allIs, AV.allI, za0, zas, zat, okI, ltI, zan, za8, zba, zbe, zbk, gA]; done) | (intro o ho; simp at ho; done)) (by first | rfl | (simp [AV.allIs, AV.allI, za0, zas, zat, okI, ltI, zan, za8, zba, zbe, zbk, gA]; done) | (intro o ho; simp at ho; done)) (by first | rfl | (simp [AV.allIs, AV.allI, za0, zas, zat, okI, ltI, zan, za8, zba, zbe, zbk, gA]; done) | (intro o ho; simp at ho; done)) ?_
    rintro _ _ ⟨ts2, μu2, rfl, rfl, hS2, hp2, hl2, hm2⟩
    refine ⟨rfl, ?_⟩
    have hfs' : ∀ t ∈ fs, t ∈ zbr ts' := fun t h => zca hp' (hfs t h)
    have hwf : ∀ t ∈ ws, t ∈ zbr ts' := fun t h => by obtain ⟨j, hj, rfl⟩ := List.getElem_of_mem h; have := (hws j (by omega)).1; rwa [zb6 hj] at this
    simp -dsimp -implicitDefEqProofs (disch := first | assumption | omega | (simp only [r_z, zah, zad, zae, zaj] <;> omega) | decide) only [r_r, ↓reduceIte, Nat.reduceEqDiff, Nat.reduceAdd, D.fix, Int.reduceToNat, Nat.reduceMul, Nat.reduceBNe, Nat.reduceBEq, r_w, r_m, zba, zbe, zbm, zbk, shD, gA, zb2, zbz, jf7, jf8, zlm q, zfw]
    refine hK14 _ _ (hK12 _ _ ?_)
    refine zbt hp zak hc rfl fun K15 hK15 => ?_
    simp -dsimp -implicitDefEqProofs (disch := first | assumption | omega | (simp only [r_z, zah, zad, zae, zaj] <;> omega) | decide) only [r_r, ↓reduceIte, Nat.reduceEqDiff, Nat.reduceAdd, D.fix, Int.reduceToNat, Nat.reduceMul, Nat.reduceBNe, Nat.reduceBEq, r_m, zba, zbe, zbm, zbk, shD, gA, zb2, zbz, zfw]
    have hws2 : ∀ j, j < 8 → nth (ws.set i (zqe v)) j ∈ zbr ts2 ∧ nth (ws.set i (zqe v)) j = if j < i + 1 then zqe (zbv base sh k + j * (nth sh k).2 + b) else .leaf false := fun j hj => by
     by_cases e : i = j
     ·subst e
      rw [zgu (by omega), if_pos (by omega), ev]
      exact ⟨hm2, rfl⟩
     ·rw [zfj e]
      refine ⟨zca hp2 (hws j hj).1, (hws j hj).2.trans ?_⟩
      by_cases h1 : j < i
      ·rw [if_pos h1, if_pos (by omega)]
      ·rw [if_neg h1, if_neg (by omega)]
    refine hK15 _ _ ⟨_, _, _, ?_, ⟨i + 1, ts2, μu2, μm', ws.set i (zqe v), ⟨by omega, hS2, hp'.trans hp2, by omega, by simpa using hw8, hws2⟩, rfl, rfl, rfl⟩, ?_⟩
    ·first | omega | (simp only [List.length_cons]; omega) | (dsimp only; omega)
    ·refine Rt.trans (Rt.gc (keep := [0,1,2,3,4,5,6,7,8]) (by decide) (by decide) (by simp [fzH, gcH])) ?_
     refine Rt.end (by repeat (first | exact zam _ | refine zai ?_ (by first | rfl | (simp [r_f, zah, zad, zae, zaj, shD]; done) | simp [r_f, zah, zad, zae, zaj, shD, *]))) ?_
     simp only [r_g, Nat.reduceAdd, ↓reduceIte, Nat.reduceEqDiff, r_m, zba, zbe, zbm, zbk, shD, gA, zb2, zbz]; rw [zdy hp2 hfs', ← zxr, zdy hp2 hwf]; rfl
   ·have hii : i = (nth sh k).1 := by simp at ht; omega
    have hel := hsh.el k q
    obtain ⟨l3, hl3⟩ : ∃ l3 : List Int, l3 = [g.a, g.b, g.c] := ⟨_, rfl⟩
    have h33 : l3.length = 3 := by rw [hl3]; rfl
    have hw0 : ∀ p, p < 8 / 2 ^ 0 → ∀ a, (nth ws p).eval a = (decide (p * 2 ^ 0 + low fs l3 a 0 < (nth sh k).1) && a (zbv base sh k + (p * 2 ^ 0 + low fs l3 a 0) * (nth sh k).2 + b)) := fun p hp a => by
     rw [(hws p (by simpa using hp)).2, hii]
     simp only [Nat.pow_zero, Nat.mul_one, low, Nat.add_zero]
     by_cases h1 : p < (nth sh k).1
     ·rw [if_pos h1, decide_eq_true h1]
      show (if a _ then true else false) = _
      cases a (zbv base sh k + p * (nth sh k).2 + b) <;> rfl
     ·rw [if_neg h1, decide_eq_false h1]; rfl
    refine zbn (hK8 _ _ ?_)
    refine zao fun K16 hK16 => ?_
    refine zac hp zak hc rfl fun K17 hK17 => ?_
    simp -dsimp -implicitDefEqProofs (disch := first | assumption | omega | (simp only [r_z, zah, zad, zae, zaj] <;> omega) | decide) only [r_r, ↓reduceIte, Nat.reduceEqDiff, Nat.reduceAdd, D.fix, Int.reduceToNat, Nat.reduceMul, Nat.reduceBNe, Nat.reduceBEq, r_m, zba, zbe, zbm, zbk, shD, gA, zb2, zbz, zfw]
    refine hK17 _ _ ?_
    refine zaz ?_
    refine zbb hp (fun τ' H' mm => ∃ (j : Nat) (ts2 : List T) (μu2 μm2 : Mp) (ws : List T), (j ≤ 3 ∧ MS V ts2 μu2 μm2 ∧ ts <+: ts2 ∧ ts2.length ≤ ts.length + 8 + (8 - 8 / 2 ^ j) * 2 ^ V ∧ ws.length = 8 ∧ (∀ t ∈ ws, t ∈ zbr ts2) ∧ ∀ i, i < 8 / 2 ^ j → ∀ a, (nth ws i).eval a = (decide (i * 2 ^ j + low fs l3 a j < (nth sh k).1) && a (zbv base sh k + (i * 2 ^ j + low fs l3 a j) * (nth sh k).2 + b))) ∧ mm = 3 - j ∧ H' = zbm ts2 μu2 μm2 base sh fs ++ [.cells (gA g), .cells (avs (ws.map (zb2 ts2))), .cells (avs (l3.map iD))] ∧ τ' = frL [(0, .op 4 0), (7, .os 1 8 0 (8 / 2 ^ j)), (84, .os 1 9 0 3), (85, .d (iD 3)), (86, .d (iD j))]) (3) ?_ ⟨0, ts', μu', μm', ws, ⟨Nat.zero_le _, hS', hp', by simp; omega, hw8, fun t h => by obtain ⟨j, hj, rfl⟩ := List.getElem_of_mem h; have := (hws j (by omega)).1; rwa [zb6 hj] at this, hw0⟩, rfl, rfl, rfl⟩ ?_
    ·refine Rt.trans (Rt.gc (keep := [0,1,2,3,4,5,6,7,8,9]) (by decide) (by decide) (by simp [fzH, gcH])) ?_
     refine Rt.end (by repeat (first | exact zam _ | refine zai ?_ (by first | rfl | (simp [r_f, zah, zad, zae, zaj, shD]; done) | simp [r_f, zah, zad, zae, zaj, shD, *]))) ?_
     simp only [r_g, Nat.reduceAdd, ↓reduceIte, Nat.reduceEqDiff, r_m, zba, zbe, zbm, zbk, shD, gA, zb2, zbz]; rw [hl3]; first | done | rfl
    rintro τ' H' mm ⟨j, ts2, μu2, μm2, ws, ⟨hj, hS2, hp2, hl2, hv8, hvf, hve⟩, rfl, rfl, rfl⟩
    refine zac hp zak hc rfl fun K18 hK18 => ?_
    simp -dsimp -implicitDefEqProofs (disch := first | assumption | omega | (simp only [r_z, zah, zad, zae, zaj] <;> omega) | decide) only [r_r, ↓reduceIte, Nat.reduceEqDiff, Nat.reduceAdd, D.fix, Int.reduceToNat, Nat.reduceMul, Nat.reduceBNe, Nat.reduceBEq, r_m, zba, zbe, zbm, zbk, shD, gA, zb2, zbz, zfw]
    refine hK18 _ _ ?_
    refine zao fun K19 hK19 => ?_
    refine zaq rfl (fun ht => ?_) (fun ht => ?_)
    ·have hlt : j < 3 := by simp at ht; omega
     obtain ⟨L1, L2, L3⟩ := lvl hlt
     obtain ⟨L, eL⟩ : ∃ L, 8 / 2 ^ (j + 1) = L := ⟨_, rfl⟩
     obtain ⟨o, eo⟩ : ∃ o, nth l3 j = o := ⟨_, rfl⟩
     have ho : 0 ≤ o ∧ o < fs.length := by
      rw [← eo, hl3]
      rcases (show j = 0 ∨ j = 1 ∨ j = 2 by omega) with rfl | rfl | rfl
      ·exact ⟨a0, a1⟩
      ·exact ⟨b0, b1⟩
      ·exact ⟨c0, c1⟩
     rw [eL] at L1 L2 L3
     refine zay (hK19 _ _ ?_)
     refine zao fun K20 hK20 => ?_
     refine zaz ?_
     refine zac hp zak hc rfl fun K21 hK21 => ?_
     simp -dsimp -implicitDefEqProofs (disch := first | assumption | omega | (simp only [r_z, zah, zad, zae, zaj] <;> omega) | decide) only [r_r, ↓reduceIte, Nat.reduceEqDiff, Nat.reduceAdd, D.fix, Int.reduceToNat, Nat.reduceMul, Nat.reduceBNe, Nat.reduceBEq, r_m, zba, zbe, zbm, zbk, shD, gA, zb2, zbz, eo, zc2, zfw]
     refine hK21 _ _ ?_
     refine zao fun K22 hK22 => ?_
     refine zac hp zak hc rfl fun K23 hK23 => ?_
     simp -dsimp -implicitDefEqProofs (disch := first | assumption | omega | (simp only [r_z, zah, zad, zae, zaj] <;> omega) | decide) only [r_r, ↓reduceIte, Nat.reduceEqDiff, Nat.reduceAdd, D.fix, Int.reduceToNat, Nat.reduceMul, Nat.reduceBNe, Nat.reduceBEq, r_m, zba, zbe, zbm, zbk, shD, gA, zb2, zbz, L1, zfw]
     refine hK23 _ _ ?_
     refine zaz ?_
     refine zbb hp (fun τ' H' mm => ∃ (i : Nat) (ts3 : List T) (μu3 μm3 : Mp) (us : List T), (i ≤ L ∧ MS V ts3 μu3 μm3 ∧ ts2 <+: ts3 ∧ ts3.length ≤ ts2.length + i * 2 ^ V ∧ us.length = 8 ∧ (∀ t ∈ us, t ∈ zbr ts3) ∧ (∀ q, q < i → ∀ a, (nth us q).eval a = if (nth fs o.toNat).eval a then (nth ws (2 * q + 1)).eval a else (nth ws (2 * q)).eval a) ∧ ∀ q, i ≤ q → nth us q = nth ws q) ∧ mm = L - i ∧ H' = zbm ts3 μu3 μm3 base sh fs ++ [.cells (gA g), .cells (avs (us.map (zb2 ts3))), .cells (avs (l3.map iD))] ∧ τ' = frL [(0, .op 4 0), (7, .os 1 8 0 (2 * L)), (10, .d (iD o)), (84, .os 1 9 0 3), (85, .d (iD 3)), (86, .d (iD j)), (92, .d (iD L)), (93, .d (iD i))]) (L) ?_ ⟨0, ts2, μu2, μm2, ws, ⟨Nat.zero_le _, hS2, List.prefix_refl _, by omega, hv8, hvf, fun q hq => absurd hq (by omega), fun q _ => rfl⟩, rfl, rfl, rfl⟩ ?_
     ·refine Rt.trans (Rt.gc (keep := [0,1,2,3,4,5,6,7,8,9]) (by decide) (by decide) (by simp [fzH, gcH])) ?_
      refine Rt.end (by repeat (first | exact zam _ | refine zai ?_ (by first | rfl | (simp [r_f, zah, zad, zae, zaj, shD]; done) | simp [r_f, zah, zad, zae, zaj, shD, *]))) ?_
      first | rfl | (simp only [r_g, Nat.reduceAdd, ↓reduceIte, Nat.reduceEqDiff, r_m, zba, zbe, zbm, zbk, shD, gA, zb2, zbz]; first | done | rfl)
     rintro τ' H' mm ⟨i, ts3, μu3, μm3, us, ⟨hi', hS3, hp3, hl3, hu8, huf, hue, hur⟩, rfl, rfl, rfl⟩
     refine zac hp zak hc rfl fun K24 hK24 => ?_
     simp -dsimp -implicitDefEqProofs (disch := first | assumption | omega | (simp only [r_z, zah, zad, zae, zaj] <;> omega) | decide) only [r_r, ↓reduceIte, Nat.reduceEqDiff, Nat.reduceAdd, D.fix, Int.reduceToNat, Nat.reduceMul, Nat.reduceBNe, Nat.reduceBEq, r_m, zba, zbe, zbm, zbk, shD, gA, zb2, zbz, zfw]
     refine hK24 _ _ ?_
     refine zao fun K25 hK25 => ?_
     refine zaq rfl (fun ht => ?_) (fun ht => ?_)
     ·have hil : i < L := by simp at ht; omega
      have x1 : (2 * (i : Int) + 1).toNat = 2 * i + 1 := by omega
      have x0 : (2 * (i : Int)).toNat = 2 * i := by omega
      have hu1 : nth us (2 * i + 1) ∈ zbr ts3 := huf _ (zb9 (by omega))
      have hu0 : nth us (2 * i) ∈ zbr ts3 := huf _ (zb9 (by omega))
      have hfs3 : ∀ t ∈ fs, t ∈ zbr ts3 := fun t h => zca (hp2.trans hp3) (hfs t h)
      have hff : nth fs o.toNat ∈ zbr ts3 := hfs3 _ (zb9 (by omega))
      have hle : i * 2 ^ V + 2 ^ V ≤ 4 * 2 ^ V := by
       rw [← Nat.succ_mul]; exact Nat.mul_le_mul_right _ (by omega)
      have hle2 : (8 - 8 / 2 ^ j) * 2 ^ V ≤ 7 * 2 ^ V := Nat.mul_le_mul_right _ (by omega)
      refine zay (hK25 _ _ ?_)
      refine zao fun K26 hK26 => ?_
      refine zaz ?_
      refine zac hp zak hc rfl fun K27 hK27 => ?_
      simp -dsimp -implicitDefEqProofs (disch := first | assumption | omega | (simp only [r_z, zah, zad, zae, zaj] <;> omega) | decide) only [r_r, ↓reduceIte, Nat.reduceEqDiff, Nat.reduceAdd, D.fix, Int.reduceToNat, Nat.reduceMul, Nat.reduceBNe, Nat.reduceBEq, r_m, zba, zbe, zbm, zbk, shD, gA, zb2, zbz]
      refine hK27 _ _ ?_
      refine znh zak hp hc mixed rfl [(0, []), (1, []), (2, []), (3, []), (4, []), (5, []), (6, []), (7, []), (8, []), (9, []), (10, []), (11, []), (12, []), (13, []), (14, []), (15, []), (16, []), (17, []), (18, []), (19, []), (20, []), (21, []), (22, []), (23, []), (24, []), (25, []), (26, [])] [[], [], [], [2], [2, 3], [2, 3, 4], [], [6], [6, 7], [6, 7, 8], [], [6, 7, 8, 9, 10], [6, 7, 8, 9, 10, 11], [], [], [14], [14, 15], [13, 14, 15, 16], [13, 14, 15, 16, 17], [], [], [20], [19, 20, 21], [19, 20, 21, 22], [2, 3, 4, 5, 6, 7, 8, 9, 10, 11, 12, 13, 14, 15, 16, 17, 18, 19, 20, 21, 22, 23], [0, 1, 2, 3, 4, 5, 6, 7, 8, 9, 10, 11, 12, 13, 14, 15, 16, 17, 18, 19, 20, 21, 22, 23, 24], [0, 1, 2, 3, 4, 5, 6, 7, 8, 9, 10, 11, 12, 13, 14, 15, 16, 17, 18, 19, 20, 21, 22, 23, 24, 25]] 0 (by kernel_rfl) fun K28 hK28 => ?_
      simp -dsimp -implicitDefEqProofs (disch := first | assumption | omega | (simp only [r_z, zah, zad, zae, zaj] <;> omega) | decide) only [r_r, ↓reduceIte, Nat.reduceEqDiff, Nat.reduceAdd, D.fix, Int.reduceToNat, Nat.reduceMul, Nat.reduceBNe, Nat.reduceBEq, r_w, r_m, zba, zbe, zbm, zbk, shD, gA, zb2, zbz, x1, x0, zfw]
      refine znj (S := zba ts3 μu3 μm3) (T := zbk ts3 base sh fs ++ [.cells (gA g), .cells (avs (us.map (zb2 ts3))), .cells (avs (l3.map iD))]) (zn2 hS3 hff hu1 hu0 (by unfold zel; omega) rfl rfl rfl) rfl (Nat.le_of_ble_eq_true rfl) (by first | rfl | (simp [AV.allIs, AV.allI, za0, zas, zat, okI, ltI, zan, za8, zba, zbe, zbk, gA]; done) | (intro o ho; simp at ho; done)) (fun t => zbs (by first | rfl | (simp [AV.allIs, AV.allI, za0, zas, zat, okI, ltI, zan, za8, zba, zbe, zbk, gA]; done) | (intro o ho; simp at ho; done)) t) (fun t => zbs (by first | rfl | (simp [AV.allIs, AV.allI, za0, zas, zat, okI, ltI, zan, za8, zba, zbe, zbk, gA]; done) | (intro o ho; simp at ho; done)) t) (by first | rfl | (simp [AV.allIs, AV.allI, za0, zas, zat, okI, ltI, zan, za8, zba, zbe, zbk, gA]; done) | (intro o ho; simp at ho; done)) (by first | rfl | (simp [AV.allIs, AV.allI, za0, zas, zat, okI, ltI, zan, za8, zba, zbe, zbk, gA]; done) | (intro o ho; simp at ho; done)) (by first | rfl | (simp [AV.allIs, AV.allI, za0, zas, zat, okI, ltI, zan, za8, zba, zbe, zbk, gA]; done) | (intro o ho; simp at ho; done)) ?_
      rintro _ _ ⟨ts4, μu4, μm4, t4, rfl, rfl, hS4, hp4, hl4, hm4, hi4⟩
      refine ⟨rfl, ?_⟩
      simp -dsimp -implicitDefEqProofs (disch := first | assumption | omega | (simp only [r_z, zah, zad, zae, zaj] <;> omega) | decide) only [r_r, ↓reduceIte, Nat.reduceEqDiff, Nat.reduceAdd, D.fix, Int.reduceToNat, Nat.reduceMul, Nat.reduceBNe, Nat.reduceBEq, r_w, r_m, zba, zbe, zbm, zbk, shD, gA, zb2, zbz, x1, x0, zfw]
      refine hK28 _ _ (hK26 _ _ ?_)
      refine zbt hp zak hc rfl fun K29 hK29 => ?_
      simp -dsimp -implicitDefEqProofs (disch := first | assumption | omega | (simp only [r_z, zah, zad, zae, zaj] <;> omega) | decide) only [r_r, ↓reduceIte, Nat.reduceEqDiff, Nat.reduceAdd, D.fix, Int.reduceToNat, Nat.reduceMul, Nat.reduceBNe, Nat.reduceBEq, r_m, zba, zbe, zbm, zbk, shD, gA, zb2, zbz, zfw]
      have hn1' : ∀ t ∈ us.set i t4, t ∈ zbr ts4 := fun t h => by
       rcases List.mem_or_eq_of_mem_set h with h | rfl
       ·exact zca hp4 (huf t h)
       ·exact hm4
      have hn2' : ∀ q, q < i + 1 → ∀ a, (nth (us.set i t4) q).eval a = if (nth fs o.toNat).eval a then (nth ws (2 * q + 1)).eval a else (nth ws (2 * q)).eval a := fun q hq a => by
       by_cases e : i = q
       ·subst e
        rw [zgu (by omega), hi4 a, hur (2 * i + 1) (by omega), hur (2 * i) (by omega)]
       ·rw [zfj e]; exact hue q (by omega) a
      have hn3' : ∀ q, i + 1 ≤ q → nth (us.set i t4) q = nth ws q := fun q hq => by
       rw [zfj (by omega)]; exact hur q (by omega)
      refine hK29 _ _ ⟨_, _, _, ?_, ⟨i + 1, ts4, μu4, μm4, us.set i t4, ⟨by omega, hS4, hp3.trans hp4, by rw [Nat.succ_mul]; omega, by simpa using hu8, hn1', hn2', hn3'⟩, rfl, rfl, rfl⟩, ?_⟩
      ·first | omega | (simp only [List.length_cons]; omega) | (dsimp only; omega)
      ·refine Rt.trans (Rt.gc (keep := [0,1,2,3,4,5,6,7,8,9]) (by decide) (by decide) (by simp [fzH, gcH])) ?_
       refine Rt.end (by repeat (first | exact zam _ | refine zai ?_ (by first | rfl | (simp [r_f, zah, zad, zae, zaj, shD]; done) | simp [r_f, zah, zad, zae, zaj, shD, *]))) ?_
       simp only [r_g, Nat.reduceAdd, ↓reduceIte, Nat.reduceEqDiff, r_m, zba, zbe, zbm, zbk, shD, gA, zb2, zbz]; rw [zdy hp4 hfs3, ← zxr, zdy hp4 huf]; rfl
     ·have hil : i = L := by simp at ht; omega
      subst hil
      refine zbn (hK22 _ _ ?_)
      refine zbt hp zak hc rfl fun K30 hK30 => ?_
      simp -dsimp -implicitDefEqProofs (disch := first | assumption | omega | (simp only [r_z, zah, zad, zae, zaj] <;> omega) | decide) only [r_r, ↓reduceIte, Nat.reduceEqDiff, Nat.reduceAdd, D.fix, Int.reduceToNat, Nat.reduceMul, Nat.reduceBNe, Nat.reduceBEq, r_m, zba, zbe, zbm, zbk, shD, gA, zb2, zbz, zfw]
      refine hK30 _ _ (hK20 _ _ ?_)
      refine zbt hp zak hc rfl fun K31 hK31 => ?_
      simp -dsimp -implicitDefEqProofs (disch := first | assumption | omega | (simp only [r_z, zah, zad, zae, zaj] <;> omega) | decide) only [r_r, ↓reduceIte, Nat.reduceEqDiff, Nat.reduceAdd, D.fix, Int.reduceToNat, Nat.reduceMul, Nat.reduceBNe, Nat.reduceBEq, r_m, zba, zbe, zbm, zbk, shD, gA, zb2, zbz, zfw]
      have hq1 : ts3.length ≤ ts.length + 8 + (8 - 8 / 2 ^ (j + 1)) * 2 ^ V := by
       have : (8 - 8 / 2 ^ (j + 1)) * 2 ^ V = (8 - 8 / 2 ^ j) * 2 ^ V + i * 2 ^ V := by rw [← Nat.add_mul, eL, L1]; congr 1; have : 8 / 2 ^ j ≤ 8 := Nat.div_le_self _ _; omega
       omega
      have hq2 : ∀ q, q < 8 / 2 ^ (j + 1) → ∀ a, (nth us q).eval a = (decide (q * 2 ^ (j + 1) + low fs l3 a (j + 1) < (nth sh k).1) && a (zbv base sh k + (q * 2 ^ (j + 1) + low fs l3 a (j + 1)) * (nth sh k).2 + b)) := fun q hq a => by
       rw [eL] at hq
       rw [hue q hq a, hve _ (by omega), hve _ (by omega)]
       have e3 : 2 ^ (j + 1) = 2 * 2 ^ j := by rw [Nat.pow_succ]; omega
       have e4 : low fs l3 a (j + 1) = low fs l3 a j + if (nth fs o.toNat).eval a then 2 ^ j else 0 := by rw [← eo]; rfl
       rw [e4, e3]
       have e5 : q * (2 * 2 ^ j) = 2 * q * 2 ^ j := by rw [← Nat.mul_assoc, Nat.mul_comm q 2]
       cases (nth fs o.toNat).eval a with
       | true =>
        have : (2 * q + 1) * 2 ^ j + low fs l3 a j = q * (2 * 2 ^ j) + (low fs l3 a j + 2 ^ j) := by rw [e5, Nat.succ_mul]; omega
        simp only [if_true, this]
       | false =>
        have : 2 * q * 2 ^ j + low fs l3 a j = q * (2 * 2 ^ j) + (low fs l3 a j + 0) := by rw [e5]; omega
        simp only [Bool.false_eq_true, if_false, this]
      refine hK31 _ _ ⟨_, _, _, ?_, ⟨j + 1, ts3, μu3, μm3, us, ⟨by omega, hS3, hp2.trans hp3, hq1, hu8, huf, hq2⟩, rfl, rfl, rfl⟩, ?_⟩
      ·first | omega | (simp only [List.length_cons]; omega) | (dsimp only; omega)
      ·refine Rt.trans (Rt.gc (keep := [0,1,2,3,4,5,6,7,8,9]) (by decide) (by decide) (by simp [fzH, gcH])) ?_
       refine Rt.end (by repeat (first | exact zam _ | refine zai ?_ (by first | rfl | (simp [r_f, zah, zad, zae, zaj, shD]; done) | simp [r_f, zah, zad, zae, zaj, shD, *]))) ?_
       first | rfl | (simp only [r_g, Nat.reduceAdd, ↓reduceIte, Nat.reduceEqDiff, r_m, zba, zbe, zbm, zbk, shD, gA, zb2, zbz]; first | done | rfl)
    ·have hj3 : j = 3 := by simp at ht; omega
     subst hj3
     refine zbn (hK16 _ _ ?_)
     refine zac hp zak hc rfl fun K32 hK32 => ?_
     simp -dsimp -implicitDefEqProofs (disch := first | assumption | omega | (simp only [r_z, zah, zad, zae, zaj] <;> omega) | decide) only [r_r, ↓reduceIte, Nat.reduceEqDiff, Nat.reduceAdd, D.fix, Int.reduceToNat, Nat.reduceMul, Nat.reduceBNe, Nat.reduceBEq, r_m, zba, zbe, zbm, zbk, shD, gA, zb2, zbz, zc2, zfw]
     refine hK32 _ _ ?_
     refine zb3 hp (τ' := frL [(4, .d (iD (num ts2 (nth ws 0))))]) (H' := zbm ts2 μu2 μm2 base sh fs) ?_ ?_
     ·refine Rt.trans (Rt.gc (keep := [0,1,2,3,4,5,6]) (by decide) (by decide) (by simp [fzH, gcH])) ?_
      refine Rt.end (by repeat (first | exact zam _ | refine zai ?_ (by first | rfl | (simp [r_f, zah, zad, zae, zaj, shD]; done) | simp [r_f, zah, zad, zae, zaj, shD, *]))) ?_
      first | rfl | (simp only [r_g, Nat.reduceAdd, ↓reduceIte, Nat.reduceEqDiff, r_m, zba, zbe, zbm, zbk, shD, gA, zb2, zbz]; first | done | rfl)
     refine za4 ?_
     refine zbq (t := 4) rfl ?_
     show ∃ _, _
     refine ⟨ts2, μu2, μm2, nth ws 0, rfl, rfl, hS2, hp2, by omega, hvf _ (zb9 (by omega)), fun a => ?_⟩
     rw [hve 0 (by decide) a, hl3]
     unfold zso
     rw [hn8, ek, eb, decide_eq_true q, decide_eq_true q']; simp
end Go.Proofs.Ytignimmnnccblaa
