/- Of no program: reduced ordered trees; two that have the same values are equal. -/
import Derived.Test.YtapjobndmmkanaaAZ
import Derived.Test.YtapjobndmmkanaaQr
import Derived.Test.YtapjobndmmkanaaTy
set_option linter.unusedVariables false
set_option linter.unusedSimpArgs false
namespace Go.Proofs.Ytapjobndmmkanaa
inductive T where
 | leaf (b : Bool)
 | node (v : Nat) (lo hi : T)
 deriving DecidableEq, Inhabited
def upd (a : Nat → Bool) (v : Nat) (b : Bool) : Nat → Bool := fun i => if i = v then b else a i
/- Lists of numbers; nets: how they lie in memory; the small functions of the simulation. -/
set_option maxRecDepth 100000
set_option maxHeartbeats 4000000
section
open Go Go.RowKit
theorem jup : (((type_of% @zdc) ∧ ((type_of% @zdd) ∧ (type_of% @zdh))) ∧ ((type_of% @zev) ∧ ((type_of% @zew) ∧ (type_of% @zkq)))) := ⟨⟨@zdc, ⟨@zdd, @zdh⟩⟩, ⟨@zev, ⟨@zew, @zkq⟩⟩⟩
theorem zwf {p q : Prop} (hq : q) (h : p = q := by
 conv => lhs; simp -dsimp -implicitDefEqProofs (disch := first | assumption | omega | (simp only [r_z] <;> omega) | decide) only [r_r, ↓reduceIte, Nat.reduceEqDiff, Nat.reduceAdd, D.fix, Int.reduceToNat, Nat.reduceMul, Nat.reduceBNe, Nat.reduceBEq]) : p := h.mpr hq
theorem jfg {p q : Prop} (hq : q) (h : p = q := by
 conv => lhs; simp -dsimp -implicitDefEqProofs (disch := first | assumption | omega | (simp only [r_z] <;> omega) | decide) only [r_r, ↓reduceIte, Nat.reduceEqDiff, Nat.reduceAdd, D.fix, Int.reduceToNat, Nat.reduceMul, Nat.reduceBNe, Nat.reduceBEq, jup]) : p := h.mpr hq
theorem ya4 {m : List Nat} {τ τ' : Fr} {H H' : zad} (h2 : H = H') (h : zgu τ τ' := by
 repeat (first | exact zar _ | refine zam ?_ (by first | rfl | (simp [r_f]; done) | simp [r_f, *]))) : Rt m τ H τ' H' := Rt.end h h2
theorem jq6 {p q : Prop} (hq : q) (h : p = q := by
 conv => lhs; simp (disch := first | assumption | omega | (simp only [r_z] <;> omega) | decide) only [r_c, Nat.reduceAdd, D.fix, ↓reduceIte, Nat.reduceEqDiff]) : p := h.mpr hq
theorem jfh (a b : List Int) (ha : a.length ≤ maxLen) : zaz Try.prog 24 [intsD a, intsD b] (.d (oD (decide (a = b)))) := by
 refine zaw (fn := Try.f24) (by kernel_rfl) Try.func24 rfl (Nat.le_of_ble_eq_true rfl) fun c hc hp => ?_
 refine za0 (τ' := frL [(0, .d (intsD a)), (1, .d (intsD b))]) (by repeat (first | exact zar _ | refine zam ?_ (by first | rfl | (simp [r_f]; done) | simp [r_f, *]))) ?_
 unfold maxLen at ha
 refine szq hp (fun _ hZ => zwf hZ) ?_
 refine zaa fun K2 hK2 => ?_
 refine szq hp (fun _ hZ => jfg hZ) ?_
 refine zah rfl (fun ht => ?_) (fun ht => ?_)
 ·have hne : a ≠ b := fun e => by subst e; simp at ht
  refine szq hp (fun _ hZ => zwf hZ) ?_
  refine zal ?_
  show closeA _ _ = _
  refine jq6 ?_
  simp [hne]
 ·have hl : a.length = b.length := by simp at ht; omega
  refine zaf (hK2 _ _ ?_)
  refine zaa fun K5 hK5 => ?_
  refine szq hp (fun _ hZ => zwf hZ) ?_
  refine zac ?_
  refine zan hp (fun τ' H' mm => ∃ k, (k ≤ a.length ∧ a.take k = b.take k) ∧ mm = a.length - k ∧ H' = [] ∧ τ' = frL [(5, .d (iD k)), (0, .d (intsD a)), (1, .d (intsD b))]) (a.length) ?_ ⟨0, ⟨Nat.zero_le _, rfl⟩, rfl, rfl, rfl⟩ ?_
  ·refine ya4 ?_
   first | rfl | (simp only [r_g, Nat.reduceAdd, ↓reduceIte, Nat.reduceEqDiff]; first | done | rfl)
  rintro τ' H' mm ⟨k, ⟨hk, htake⟩, rfl, rfl, rfl⟩
  refine zaa fun K7 hK7 => ?_
  refine szq hp (fun _ hZ => jfg hZ) ?_
  refine zah rfl (fun ht => ?_) (fun ht => ?_)
  ·have hlt : k < a.length := by simp at ht; omega
   have hlt2 : k < b.length := by omega
   refine zaf (hK7 _ _ ?_)
   refine zaa fun K9 hK9 => ?_
   refine zac ?_
   refine zas zai hc za8 rfl (q := 0) (by kernel_rfl) (by kernel_rfl) fun K10 hK10 => ?_
   refine jfg ?_
   refine hK10 _ _ ?_
   refine zah rfl (fun ht => ?_) (fun ht => ?_)
   ·have hne : a ≠ b := fun e => by subst e; simp at ht
    refine szq hp (fun _ hZ => zwf hZ) ?_
    refine zal ?_
    show closeA _ _ = _
    refine jq6 ?_
    simp [hne]
   ·refine zaf (hK9 _ _ ?_)
    refine za5 hp zai hc rfl fun K12 hK12 => ?_
    refine jfg ?_
    refine hK12 _ _ ⟨_, _, _, ?_, ⟨k + 1, ⟨by omega, zl6 hlt hlt2 htake (by simpa using ht)⟩, rfl, rfl, rfl⟩, ?_⟩
    ·first | omega | (simp only [List.length_cons]; omega) | (dsimp only; omega)
    ·refine ya4 ?_
     first | rfl | (simp only [r_g, Nat.reduceAdd, ↓reduceIte, Nat.reduceEqDiff]; first | done | rfl)
  ·have hge : k = a.length := by simp at ht; omega
   have he : a = b := by rw [hge, List.take_length, hl, List.take_length] at htake; exact htake
   refine zau (hK5 _ _ ?_)
   refine szq hp (fun _ hZ => zwf hZ) ?_
   refine zal ?_
   show closeA _ _ = _
   refine jq6 ?_
   simp [he]
structure Wire where
 kind : Int
 i : Int
 bit : Int
instance : Inhabited Wire := ⟨⟨0, 0, 0⟩⟩
structure Gate where
 op : Int
 a : Int
 b : Int
 c : Int
 n : Int
instance : Inhabited Gate := ⟨⟨0, 0, 0, 0, 0⟩⟩
structure Net where
 ins : List Wire
 gates : List Gate
 out : List Wire
 drive : List Int
def za6 (w : Wire) : List D := [iD w.kind, iD w.i, iD w.bit]
def zb8 (g : Gate) : List D := [iD g.op, iD g.a, iD g.b, iD g.c, iD g.n]
def zao (l : List Wire) : D := .fs (l.flatMap za6) l.length
def zaj (l : List Gate) : D := .fs (l.flatMap zb8) l.length
def zb1 (n : Net) : List D := [zao n.ins, zaj n.gates, zao n.out, intsD n.drive]
def zby (n : Net) : D := .agg (zb1 n)
theorem zcd (g : Gate) : (zb8 g).length = 5 := rfl
theorem zbj (w : Wire) : (za6 w).length = 3 := rfl
section
variable {l : List Gate} {k : Nat}
theorem zcc (h : k < l.length) : zb7 (l.flatMap zb8) (k * 5) 5 = some (zb8 (nth l k)) := zf8 zcd h
theorem zzz (h : k < l.length) : (l.flatMap zb8)[k * 5]? = some (iD (nth l k).op) := (zcq (j := 0) zcd h (by omega)).trans rfl
theorem zz0 (h : k < l.length) : (l.flatMap zb8)[k * 5 + 1]? = some (iD (nth l k).a) := (zcq (j := 1) zcd h (by omega)).trans rfl
theorem zae : (l.flatMap zb8).length = l.length * 5 := zc1 zcd l
theorem zz1 (l : List Gate) : (l.flatMap zb8).map D.fix = l.flatMap zb8 := zr0 (fun _ => rfl) l
theorem ji5 (l : List Wire) : (l.flatMap za6).map D.fix = l.flatMap za6 := zr0 (fun _ => rfl) l
end
section
variable {l : List Wire} {k : Nat}
theorem zbn (h : k < l.length) : zb7 (l.flatMap za6) (k * 3) 3 = some (za6 (nth l k)) := zf8 zbj h
theorem zjs (h : k < l.length) : (l.flatMap za6)[k * 3]? = some (iD (nth l k).kind) := (zcq (j := 0) zbj h (by omega)).trans rfl
theorem zjt (h : k < l.length) : (l.flatMap za6)[k * 3 + 1]? = some (iD (nth l k).i) := (zcq (j := 1) zbj h (by omega)).trans rfl
theorem zuw (h : k < l.length) : (l.flatMap za6)[k * 3 + 2]? = some (iD (nth l k).bit) := (zcq (j := 2) zbj h (by omega)).trans rfl
theorem zab : (l.flatMap za6).length = l.length * 3 := zc1 zbj l
end
def ji6 (v b : Int) : Bool := zvp .and .i64 (v.fdiv (2 ^ min b.toNat 64)) 1 == 1
theorem jow (v b : Int) (hb : 0 ≤ b) : zaz Try.prog 47 [iD v, iD b] (.d (oD (ji6 v b))) := by
 refine zaw (fn := Try.f47) (by kernel_rfl) Try.func47 rfl (Nat.le_of_ble_eq_true rfl) fun c hc hp => ?_
 refine za0 (τ' := frL [(0, .d (iD v)), (1, .d (iD b))]) (by repeat (first | exact zar _ | refine zam ?_ (by first | rfl | (simp [r_f]; done) | simp [r_f, *]))) ?_
 refine szq hp (fun _ hZ => zwf hZ) ?_
 refine szq hp (fun _ hZ => jfg hZ) ?_
 refine zal ?_
 show closeA _ _ = _
 simp (disch := first | assumption | omega | (simp only [r_z] <;> omega) | decide) only [r_c, Nat.reduceAdd, D.fix, ↓reduceIte, Nat.reduceEqDiff, ji6]
def jm1 (a b c : Bool) : Int := (if a then 1 else 0) + (if b then 2 else 0) + (if c then 4 else 0)
theorem jm2 (a b c : Bool) : 0 ≤ jm1 a b c ∧ jm1 a b c ≤ 7 := by cases a <;> cases b <;> cases c <;> decide
theorem ji7 (a b c : Bool) : zaz Try.prog 43 [.fs [oD a, oD b, oD c] 3] (.d (iD (jm1 a b c))) := by
 cases a <;> cases b <;> cases c <;> exact zbq (n := 60) za8 zai (by kernel_rfl)
def zo1 (mems : List (List Int)) (n x : Int) : Bool := decide (n / 8 < mems.length) && (decide (x < (nth mems (n / 8).toNat).length) && ji6 (nth (nth mems (n / 8).toNat) x.toNat) (n % 8))
theorem ji8 {p q r : Prop} (e : r) (hq : q) (h : r → p = q := by
 intro hY
 conv => lhs; simp -dsimp -implicitDefEqProofs (disch := first | assumption | omega | (simp only [r_z] <;> omega) | decide) only [r_r, ↓reduceIte, Nat.reduceEqDiff, Nat.reduceAdd, D.fix, Int.reduceToNat, Nat.reduceMul, Nat.reduceBNe, Nat.reduceBEq, decide_true, decide_false, jup, hY]) : p := (h e).mpr hq
theorem juq (mems : List (List Int)) (n x : Int) (hn : 0 ≤ n) (hn2 : n < 1000000) (hx : 0 ≤ x) : zaz Try.prog 42 [intssD mems, iD n, iD x] (.d (oD (zo1 mems n x))) := by
 refine zaw (fn := Try.f42) (by kernel_rfl) Try.func42 rfl (Nat.le_of_ble_eq_true rfl) fun c hc hp => ?_
 refine za0 (τ' := frL [(0, .d (intssD mems)), (1, .d (iD n)), (2, .d (iD x))]) (by repeat (first | exact zar _ | refine zam ?_ (by first | rfl | (simp [r_f]; done) | simp [r_f, *]))) ?_
 refine szq hp (fun _ hZ => zwf hZ) ?_
 refine zag hp zai hc rfl fun K2 hK2 => ?_
 by_cases h1 : n / 8 < mems.length
 by_cases h2 : x < (nth mems (n / 8).toNat).length
 ·refine ji8 (sza h1 h2) ?_
  refine za1 (jow _ _ (by omega)) rfl ?_
  refine ji8 (sza h1 h2) ?_
  refine hK2 _ _ ?_
  refine zal ?_
  show closeA _ _ = _
  refine jq6 ?_
  simp [zo1, h1, h2]
 ·refine ji8 (sza h1 h2) ?_
  refine hK2 _ _ ?_
  refine zal ?_
  show closeA _ _ = _
  refine jq6 ?_
  simp [zo1, h1, h2]
 ·have h2 := h1
  refine ji8 (sza h1 h2) ?_
  refine hK2 _ _ ?_
  refine zal ?_
  show closeA _ _ = _
  refine jq6 ?_
  simp [zo1, h1]
def opsC : List D := [iD 1, .val (.func (.func 82) #[] #[]), iD 2, .val (.func (.func 83) #[] #[]), iD 3, .val (.func (.func 84) #[] #[]), iD 4, .val (.func (.func 85) #[] #[]), iD 5, .val (.func (.func 86) #[] #[]), iD 6, .val (.func (.func 87) #[] #[])]
theorem zwg : zaz Try.prog 41 [] (.d (.agg opsC)) := zbq (n := 60) za8 zai (by kernel_rfl)
theorem yco (x y z : Bool) : zaz Try.prog 82 [oD x, oD y, oD z] (.d (oD (!x))) := by cases x <;> cases y <;> cases z <;> exact zbq (n := 60) za8 zai (by kernel_rfl)
theorem ycp (x y z : Bool) : zaz Try.prog 83 [oD x, oD y, oD z] (.d (oD (x && y))) := by cases x <;> cases y <;> cases z <;> exact zbq (n := 60) za8 zai (by kernel_rfl)
theorem ycq (x y z : Bool) : zaz Try.prog 84 [oD x, oD y, oD z] (.d (oD (x || y))) := by cases x <;> cases y <;> cases z <;> exact zbq (n := 60) za8 zai (by kernel_rfl)
theorem ycr (x y z : Bool) : zaz Try.prog 85 [oD x, oD y, oD z] (.d (oD (x != y))) := by cases x <;> cases y <;> cases z <;> exact zbq (n := 60) za8 zai (by kernel_rfl)
theorem ycs (x y z : Bool) : zaz Try.prog 86 [oD x, oD y, oD z] (.d (oD (if x then y else z))) := by cases x <;> cases y <;> cases z <;> exact zbq (n := 60) za8 zai (by kernel_rfl)
theorem yct (x y z : Bool) : zaz Try.prog 87 [oD x, oD y, oD z] (.d (oD (x && (y || z) || y && z))) := by cases x <;> cases y <;> cases z <;> exact zbq (n := 60) za8 zai (by kernel_rfl)
def zwh (op a b c n : Int) : List D := [.fs opsC 6, .clo (.func 45) [] [.fp [iD op, iD a, iD b, iD c, iD n] 0]]
theorem jur (a b c n : Int) : zaz Try.prog 44 (zwh 1 a b c n) (.d (iD 0)) := zbq (n := 60) za8 zai (by kernel_rfl)
theorem jus (a b c n : Int) : zaz Try.prog 44 (zwh 2 a b c n) (.d (iD 1)) := zbq (n := 60) za8 zai (by kernel_rfl)
theorem jut (a b c n : Int) : zaz Try.prog 44 (zwh 3 a b c n) (.d (iD 2)) := zbq (n := 60) za8 zai (by kernel_rfl)
theorem juu (a b c n : Int) : zaz Try.prog 44 (zwh 4 a b c n) (.d (iD 3)) := zbq (n := 60) za8 zai (by kernel_rfl)
theorem juv (a b c n : Int) : zaz Try.prog 44 (zwh 5 a b c n) (.d (iD 4)) := zbq (n := 60) za8 zai (by kernel_rfl)
theorem juw (a b c n : Int) : zaz Try.prog 44 (zwh 6 a b c n) (.d (iD 5)) := zbq (n := 60) za8 zai (by kernel_rfl)
/- Keys of the maps: structs of whole numbers. -/
end
section
open Go Go.RowKit
theorem jze {n : Int} (h : I64 n) : (Lit.int .i64 n).wf = true := by
 obtain ⟨h1, h2⟩ := h
 simp [Lit.wf]; exact ⟨h1, by omega⟩
theorem zsr {P : Program} {e : TypeId} (hu : P.underlying e = some (.int .i64)) {n : Int} (hn : I64 n) (d : Nat) : P.keyLits (d + 1) e [.int .i64 n] = some [.int .i64 n] := by
 simp [Program.keyLits, hu, jze hn]
theorem zz2 {n : Nat} (h : Nat.ble 1 n = true) : ∃ d, n = d + 1 := ⟨n - 1, by have := Nat.le_of_ble_eq_true h; omega⟩
theorem zra {n : Int} (h0 : -1000000000000 ≤ n) (h1 : n ≤ 1000000000000) : I64 n := ⟨by omega, by omega⟩
def eV (a b : Int) : Value := .agg #[.int .i64 a, .int .i64 b]
theorem jm3 {a b a' b' : Int} (h : eV a b = eV a' b') : a = a' ∧ b = b' := by
 unfold eV at h
 injection h with h
 have h' := congrArg Array.toList h
 simpa using h'
theorem zux {a b : Int} (ha : I64 a) (hb : I64 b) : zr8 Try.prog 131 (.agg #[.int .i64 a, .int .i64 b]) := by
 refine ⟨rfl, fun kt et hm => ?_⟩
 have h0 : zk3 Try.prog 131 = some (134, 4) := by kernel_rfl
 rw [h0] at hm; cases hm
 obtain ⟨nn, hnn⟩ : ∃ nn, Try.prog.types.size = nn + 1 := zz2 (by kernel_rfl)
 have h1 : Try.prog.keyType 134 = true := by kernel_rfl
 have h2 : Try.prog.cellsOf 134 = 2 := by kernel_rfl
 have h3 : Try.prog.cellsOf 3 = 1 := by kernel_rfl
 unfold keyOf
 rw [Try.underlying134]
 have h4 : Value.formed Try.prog 134 (.agg #[.int .i64 a, .int .i64 b]) = true := by
  unfold Value.formed
  simp only [Try.underlying134, h2]; rfl
 simp only [h1, h4, Bool.and_self, if_true, hnn]
 unfold Program.keyLits
 simp only [Try.underlying134, h2, h3, Value.cells, List.mapM_cons, List.mapM_nil, List.drop_zero, List.drop_succ_cons, List.take_succ_cons, List.take_zero, zsr Try.underlying3 ha, zsr Try.underlying3 hb]
 rw [if_pos ⟨rfl, by first | rfl | decide | simp⟩]; rfl
theorem zrb {a b : Int} (ha : I64 a) (hb : I64 b) : zr8 Try.prog 132 (.agg #[.int .i64 a, .int .i64 b]) := by
 refine ⟨rfl, fun kt et hm => ?_⟩
 have h0 : zk3 Try.prog 132 = some (134, 3) := by kernel_rfl
 rw [h0] at hm; cases hm
 obtain ⟨nn, hnn⟩ : ∃ nn, Try.prog.types.size = nn + 1 := zz2 (by kernel_rfl)
 have h1 : Try.prog.keyType 134 = true := by kernel_rfl
 have h2 : Try.prog.cellsOf 134 = 2 := by kernel_rfl
 have h3 : Try.prog.cellsOf 3 = 1 := by kernel_rfl
 unfold keyOf
 rw [Try.underlying134]
 have h4 : Value.formed Try.prog 134 (.agg #[.int .i64 a, .int .i64 b]) = true := by
  unfold Value.formed
  simp only [Try.underlying134, h2]; rfl
 simp only [h1, h4, Bool.and_self, if_true, hnn]
 unfold Program.keyLits
 simp only [Try.underlying134, h2, h3, Value.cells, List.mapM_cons, List.mapM_nil, List.drop_zero, List.drop_succ_cons, List.take_succ_cons, List.take_zero, zsr Try.underlying3 ha, zsr Try.underlying3 hb]
 rw [if_pos ⟨rfl, by first | rfl | decide | simp⟩]; rfl
/- netsim.Eval: the values of all nodes. -/
end
section
open Go Go.RowKit
theorem ji9 : (((((type_of% @zgy) ∧ ((type_of% @zhv) ∧ (type_of% @jmm))) ∧ ((type_of% @jmn) ∧ ((type_of% @jmo) ∧ (type_of% @zia)))) ∧ (((type_of% @zmp) ∧ ((type_of% @zmq) ∧ (type_of% @zpp))) ∧ ((type_of% @zev) ∧ ((type_of% @zew) ∧ (type_of% @zus))))) ∧ ((((type_of% @zut) ∧ ((type_of% @jbf) ∧ (type_of% @zll))) ∧ ((type_of% @zq0) ∧ ((type_of% @zq1) ∧ (type_of% @zlm)))) ∧ (((type_of% @zln) ∧ ((type_of% @zie) ∧ (type_of% @zlp))) ∧ ((type_of% @zzb) ∧ ((type_of% @jmk) ∧ (type_of% @jml)))))) := ⟨⟨⟨⟨@zgy, ⟨@zhv, @jmm⟩⟩, ⟨@jmn, ⟨@jmo, @zia⟩⟩⟩, ⟨⟨@zmp, ⟨@zmq, @zpp⟩⟩, ⟨@zev, ⟨@zew, @zus⟩⟩⟩⟩, ⟨⟨⟨@zut, ⟨@jbf, @zll⟩⟩, ⟨@zq0, ⟨@zq1, @zlm⟩⟩⟩, ⟨⟨@zln, ⟨@zie, @zlp⟩⟩, ⟨@zzb, ⟨@jmk, @jml⟩⟩⟩⟩⟩
theorem zeg : opsC.length = 12 := rfl
structure GateOk (m : Nat) (g : Gate) : Prop where
 o1 : 1 ≤ g.op
 o2 : g.op ≤ 7
 a0 : 0 ≤ g.a
 a1 : g.a < m
 b0 : 0 ≤ g.b
 b1 : g.b < m
 c0 : 0 ≤ g.c
 c1 : g.c < m
 n0 : 0 ≤ g.n
 n1 : g.n < 1000000
def GatesOk (m : Nat) (l : List Gate) : Prop := ∀ k, k < l.length → GateOk (m + k) (nth l k)
def opN (mems : List (List Int)) (v : List Bool) (g : Gate) : Bool :=
 if g.op = 7 then zo1 mems g.n (jm1 (nth v g.a.toNat) (nth v g.b.toNat) (nth v g.c.toNat))
 else if g.op = 1 then !nth v g.a.toNat
 else if g.op = 2 then nth v g.a.toNat && nth v g.b.toNat
 else if g.op = 3 then nth v g.a.toNat || nth v g.b.toNat
 else if g.op = 4 then nth v g.a.toNat != nth v g.b.toNat
 else if g.op = 5 then if nth v g.a.toNat then nth v g.b.toNat else nth v g.c.toNat
 else nth v g.a.toNat && (nth v g.b.toNat || nth v g.c.toNat) || nth v g.b.toNat && nth v g.c.toNat
def zhx (mems : List (List Int)) (v : List Bool) (l : List Gate) : List Bool := l.foldl (fun v g => v ++ [opN mems v g]) v
def zhd (gates : List Gate) (inp : List Bool) (mems : List (List Int)) : List Bool := zhx mems (false :: true :: inp) gates
theorem zbx (mems : List (List Int)) : ∀ (l : List Gate) (v : List Bool), (zhx mems v l).length = v.length + l.length
 | [], v => rfl
 | g :: l, v => by
  show (zhx mems (v ++ [opN mems v g]) l).length = _
  rw [zbx mems l]; simp; omega
theorem zd7 (mems : List (List Int)) (v : List Bool) {l : List Gate} {k : Nat} (h : k < l.length) : zhx mems v (l.take (k + 1)) = zhx mems v (l.take k) ++ [opN mems (zhx mems v (l.take k)) (nth l k)] := by
 rw [zeu h]; simp [zhx]
theorem zih {p q : Prop} (hq : q) (h : p = q := by
 conv => lhs; simp -dsimp -implicitDefEqProofs (disch := first | assumption | omega | (simp only [r_z, zae, zab, zbx, zeg] <;> omega) | decide) only [r_r, ↓reduceIte, Nat.reduceEqDiff, Nat.reduceAdd, D.fix, Int.reduceToNat, Nat.reduceMul, Nat.reduceBNe, Nat.reduceBEq, zby, zb1, zao, zaj, zcc, zcd, zbj, zb8, ji9]) : p := h.mpr hq
theorem jux {p q : Prop} (hq : q) (h : p = q := by
 conv => lhs; simp -dsimp -implicitDefEqProofs (disch := first | assumption | omega | (simp only [r_z, zae, zab, zbx, zeg] <;> omega) | decide) only [r_r, ↓reduceIte, Nat.reduceEqDiff, Nat.reduceAdd, D.fix, Int.reduceToNat, Nat.reduceMul, Nat.reduceBNe, Nat.reduceBEq, zby, zb1, zao, zaj, zcc, zcd, zbj, zb8, opsC, ji9]) : p := h.mpr hq
theorem jm4 (k : List Nat) {m : List Nat} {τ τ1 : Fr} {H H1 : zad} (h : Rt m (fun t => gcV k (τ t)) (gcH k H) τ1 H1) (a : ∀ i ∈ m, k[i]? = some i := by decide) (b : k.Nodup := by decide) (c : ∀ i ∈ k, i < H.length := by
 simp [fzH, gcH]) : Rt m τ H τ1 H1 := Rt.trans (Rt.gc a b c) h
theorem jm5 {m : List Nat} {τ τ' : Fr} {H H' : zad} (h2 : H = H') (h : zgu τ τ' := by
 repeat (first | exact zar _ | refine zam ?_ (by first | rfl | (simp [r_f, zae, zab, zbx, zeg]; done) | simp [r_f, zae, zab, zbx, zeg, *]))) : Rt m τ H τ' H' := Rt.end h h2
theorem zmx {p q r : Prop} (e : r) (hq : q) (h : r → p = q := by
 intro hY
 conv => lhs; simp -dsimp -implicitDefEqProofs (disch := first | assumption | omega | (simp only [r_z, zae, zab, zbx, zeg] <;> omega) | decide) only [r_r, ↓reduceIte, Nat.reduceEqDiff, Nat.reduceAdd, D.fix, Int.reduceToNat, Nat.reduceMul, Nat.reduceBNe, Nat.reduceBEq, zby, zb1, zao, zaj, zcc, zcd, zbj, zb8, ji9, hY]) : p := (h e).mpr hq
theorem zmy {p q r : Prop} (e : r) (hq : q) (h : r → p = q := by
 intro hY
 conv => lhs; simp -dsimp -implicitDefEqProofs (disch := first | assumption | omega | (simp only [r_z, zae, zab, zbx, zeg] <;> omega) | decide) only [r_r, ↓reduceIte, Nat.reduceEqDiff, Nat.reduceAdd, D.fix, Int.reduceToNat, Nat.reduceMul, Nat.reduceBNe, Nat.reduceBEq, zby, zb1, zao, zaj, zcc, zcd, zbj, zb8, opsC, ji9, hY]) : p := (h e).mpr hq
theorem jox {p q : Prop} (hq : q) (h : p = q := by
 conv => lhs; simp only [r_g, Nat.reduceAdd, ↓reduceIte, Nat.reduceEqDiff, zby, zb1, zao, zaj, zcc, zcd, zbj, zb8]) : p := h.mpr hq
theorem jq7 {p : Prop} (h : p := by
 simp (disch := first | assumption | omega | (simp only [r_z, zae, zab, zbx, zeg] <;> omega) | decide) only [r_c, Nat.reduceAdd, D.fix, ↓reduceIte, Nat.reduceEqDiff, zby, zb1, zao, zaj, zcc, zcd, zbj, zb8, zwh, opsC]) : p := h
theorem jm6 (n : Net) (inp : List Bool) (mems : List (List Int)) (hg : GatesOk (2 + inp.length) n.gates) (h1 : inp.length ≤ 1000000) (h2 : n.gates.length ≤ 1000000) : zaz Try.prog 15 [zby n, boolsD inp, intssD mems] (.d (boolsD (zhd n.gates inp mems))) := by
 refine zaw (fn := Try.f15) (by kernel_rfl) Try.func15 rfl (Nat.le_of_ble_eq_true rfl) fun c hc hp => ?_
 refine za0 (τ' := frL [(0, .d (zby n)), (1, .d (boolsD inp)), (2, .d (intssD mems))]) (by repeat (first | exact zar _ | refine zam ?_ (by first | rfl | (simp [r_f, zae, zab, zbx, zeg]; done) | simp [r_f, zae, zab, zbx, zeg, *]))) ?_
 refine szq hp (fun _ hZ => zih hZ) ?_
 refine szq hp (fun _ hZ => zih hZ) ?_
 refine zag hp zai hc rfl fun K3 hK3 => ?_
 refine jux ?_
 refine za1 (zwg) rfl ?_
 refine jux ?_
 refine hK3 _ _ ?_
 refine zaa fun K4 hK4 => ?_
 refine szq hp (fun _ hZ => zih hZ) ?_
 refine zac ?_
 refine zan hp (fun τ' H' mm => ∃ k, (k ≤ n.gates.length) ∧ mm = n.gates.length - k ∧ H' = [.cells (avs ((zhx mems (false :: true :: inp) (n.gates.take k)).map oD)), .cells (avs opsC)] ∧ τ' = frL [(2, .d (intssD mems)), (7, .os 1 0 0 (2 + inp.length + k)), (8, .op 1 0), (20, .d (zaj n.gates)), (21, .d (iD n.gates.length)), (22, .d (iD k))]) (n.gates.length) ?_ ⟨0, Nat.zero_le _, rfl, rfl, rfl⟩ ?_
 ·refine jm4 [2,3] ?_
  refine jm5 ?_
  first | rfl | (simp only [r_g, Nat.reduceAdd, ↓reduceIte, Nat.reduceEqDiff, zby, zb1, zao, zaj, zcc, zcd, zbj, zb8]; first | done | rfl)
 rintro τ' H' mm ⟨k, hk, rfl, rfl, rfl⟩
 refine szq hp (fun _ hZ => zih hZ) ?_
 refine zaa fun K7 hK7 => ?_
 refine zah rfl (fun ht => ?_) (fun ht => ?_)
 ·have hlt : k < n.gates.length := by simp at ht; omega
  refine zaf (hK7 _ _ ?_)
  refine zaa fun K8 hK8 => ?_
  refine zac ?_
  have ok := hg k hlt
  obtain ⟨o1, o2, a0, a1, b0, b1, c0, c1, n0, n1⟩ := ok
  have hl : (zhx mems (false :: true :: inp) (n.gates.take k)).length = 2 + inp.length + k := by rw [zbx]; simp; omega
  refine szq hp (fun _ hZ => zih hZ) ?_
  refine zas zai hc za8 rfl (q := 0) (by kernel_rfl) (by kernel_rfl) fun K10 hK10 => ?_
  refine zih ?_
  refine hK10 _ _ ?_
  refine zaa fun K11 hK11 => ?_
  refine szq hp (fun _ hZ => zih hZ) ?_
  refine zah rfl (fun ht => ?_) (fun ht => ?_)
  ·have h7 : (nth n.gates k).op = 7 := by simpa using ht
   refine zas zai hc za8 rfl (q := 3) (by kernel_rfl) (by kernel_rfl) fun K13 hK13 => ?_
   refine zih ?_
   refine za1 (ji7 _ _ _) rfl ?_
   refine zih ?_
   refine za1 (juq _ _ _ n0 n1 (jm2 _ _ _).1) rfl ?_
   refine zih ?_
   refine hK13 _ _ ?_
   refine zau (hK8 _ _ ?_)
   refine za5 hp zai hc rfl fun K14 hK14 => ?_
   refine zih ?_
   refine hK14 _ _ ⟨_, _, _, ?_, ⟨k + 1, by omega, rfl, rfl, rfl⟩, ?_⟩
   ·first | omega | (simp only [List.length_cons]; omega) | (dsimp only; omega)
   ·refine jm4 [5,1] ?_
    refine jm5 ?_
    refine jox ?_; simp [zd7 _ _ hlt, opN, h7, oD]
  ·have h7 : ¬ (nth n.gates k).op = 7 := by simpa using ht
   refine zaf (hK11 _ _ ?_)
   refine zag hp zai hc rfl fun K15 hK15 => ?_
   rcases (show (nth n.gates k).op = 1 ∨ (nth n.gates k).op = 2 ∨ (nth n.gates k).op = 3 ∨ (nth n.gates k).op = 4 ∨ (nth n.gates k).op = 5 ∨ (nth n.gates k).op = 6 by omega) with ho | ho | ho | ho | ho | ho
   ·refine zmx ho ?_
    refine zqu (jur (nth n.gates k).a (nth n.gates k).b (nth n.gates k).c (nth n.gates k).n) ?_ ?_
    ·exact jq7
    refine zmx ho ?_
    refine hK15 _ _ ?_
    refine za5 hp zai hc rfl fun K16 hK16 => ?_
    refine zmy ho ?_
    refine za1 (yco _ _ _) rfl ?_
    refine zmy ho ?_
    refine hK16 _ _ (hK8 _ _ ?_)
    refine za5 hp zai hc rfl fun K17 hK17 => ?_
    refine zih ?_
    refine hK17 _ _ ⟨_, _, _, ?_, ⟨k + 1, by omega, rfl, rfl, rfl⟩, ?_⟩
    ·first | omega | (simp only [List.length_cons]; omega) | (dsimp only; omega)
    ·refine jm4 [4,1] ?_
     refine jm5 ?_
     refine jox ?_; simp [zd7 _ _ hlt, opN, ho, oD]; rfl
   ·refine zmx ho ?_
    refine zqu (jus (nth n.gates k).a (nth n.gates k).b (nth n.gates k).c (nth n.gates k).n) ?_ ?_
    ·exact jq7
    refine zmx ho ?_
    refine hK15 _ _ ?_
    refine za5 hp zai hc rfl fun K18 hK18 => ?_
    refine zmy ho ?_
    refine za1 (ycp _ _ _) rfl ?_
    refine zmy ho ?_
    refine hK18 _ _ (hK8 _ _ ?_)
    refine za5 hp zai hc rfl fun K19 hK19 => ?_
    refine zih ?_
    refine hK19 _ _ ⟨_, _, _, ?_, ⟨k + 1, by omega, rfl, rfl, rfl⟩, ?_⟩
    ·first | omega | (simp only [List.length_cons]; omega) | (dsimp only; omega)
    ·refine jm4 [4,1] ?_
     refine jm5 ?_
     refine jox ?_; simp [zd7 _ _ hlt, opN, ho, oD]; rfl
   ·refine zmx ho ?_
    refine zqu (jut (nth n.gates k).a (nth n.gates k).b (nth n.gates k).c (nth n.gates k).n) ?_ ?_
    ·exact jq7
    refine zmx ho ?_
    refine hK15 _ _ ?_
    refine za5 hp zai hc rfl fun K20 hK20 => ?_
    refine zmy ho ?_
    refine za1 (ycq _ _ _) rfl ?_
    refine zmy ho ?_
    refine hK20 _ _ (hK8 _ _ ?_)
    refine za5 hp zai hc rfl fun K21 hK21 => ?_
    refine zih ?_
    refine hK21 _ _ ⟨_, _, _, ?_, ⟨k + 1, by omega, rfl, rfl, rfl⟩, ?_⟩
    ·first | omega | (simp only [List.length_cons]; omega) | (dsimp only; omega)
    ·refine jm4 [4,1] ?_
     refine jm5 ?_
     refine jox ?_; simp [zd7 _ _ hlt, opN, ho, oD]; rfl
   ·refine zmx ho ?_
    refine zqu (juu (nth n.gates k).a (nth n.gates k).b (nth n.gates k).c (nth n.gates k).n) ?_ ?_
    ·exact jq7
    refine zmx ho ?_
    refine hK15 _ _ ?_
    refine za5 hp zai hc rfl fun K22 hK22 => ?_
    refine zmy ho ?_
    refine za1 (ycr _ _ _) rfl ?_
    refine zmy ho ?_
    refine hK22 _ _ (hK8 _ _ ?_)
    refine za5 hp zai hc rfl fun K23 hK23 => ?_
    refine zih ?_
    refine hK23 _ _ ⟨_, _, _, ?_, ⟨k + 1, by omega, rfl, rfl, rfl⟩, ?_⟩
    ·first | omega | (simp only [List.length_cons]; omega) | (dsimp only; omega)
    ·refine jm4 [4,1] ?_
     refine jm5 ?_
     refine jox ?_; simp [zd7 _ _ hlt, opN, ho, oD]; rfl
   ·refine zmx ho ?_
    refine zqu (juv (nth n.gates k).a (nth n.gates k).b (nth n.gates k).c (nth n.gates k).n) ?_ ?_
    ·exact jq7
    refine zmx ho ?_
    refine hK15 _ _ ?_
    refine za5 hp zai hc rfl fun K24 hK24 => ?_
    refine zmy ho ?_
    refine za1 (ycs _ _ _) rfl ?_
    refine zmy ho ?_
    refine hK24 _ _ (hK8 _ _ ?_)
    refine za5 hp zai hc rfl fun K25 hK25 => ?_
    refine zih ?_
    refine hK25 _ _ ⟨_, _, _, ?_, ⟨k + 1, by omega, rfl, rfl, rfl⟩, ?_⟩
    ·first | omega | (simp only [List.length_cons]; omega) | (dsimp only; omega)
    ·refine jm4 [4,1] ?_
     refine jm5 ?_
     refine jox ?_; simp [zd7 _ _ hlt, opN, ho, oD]; rfl
   ·refine zmx ho ?_
    refine zqu (juw (nth n.gates k).a (nth n.gates k).b (nth n.gates k).c (nth n.gates k).n) ?_ ?_
    ·exact jq7
    refine zmx ho ?_
    refine hK15 _ _ ?_
    refine za5 hp zai hc rfl fun K26 hK26 => ?_
    refine zmy ho ?_
    refine za1 (yct _ _ _) rfl ?_
    refine zmy ho ?_
    refine hK26 _ _ (hK8 _ _ ?_)
    refine za5 hp zai hc rfl fun K27 hK27 => ?_
    refine zih ?_
    refine hK27 _ _ ⟨_, _, _, ?_, ⟨k + 1, by omega, rfl, rfl, rfl⟩, ?_⟩
    ·first | omega | (simp only [List.length_cons]; omega) | (dsimp only; omega)
    ·refine jm4 [4,1] ?_
     refine jm5 ?_
     refine jox ?_; simp [zd7 _ _ hlt, opN, ho, oD]; rfl
 ·have hge : k = n.gates.length := by simp at ht; omega
  refine zau (hK4 _ _ ?_)
  refine zag hp zai hc rfl fun K28 hK28 => ?_
  simp -dsimp -implicitDefEqProofs (disch := first | assumption | omega | (simp only [r_z, zae, zab, zbx, zeg] <;> omega) | decide) only [r_r, ↓reduceIte, Nat.reduceEqDiff, Nat.reduceAdd, D.fix, Int.reduceToNat, Nat.reduceMul, Nat.reduceBNe, Nat.reduceBEq, zby, zb1, zao, zaj, zcc, zcd, zbj, zb8]
  refine hK28 _ _ ?_
  refine zal ?_
  show closeA _ _ = _
  simp (disch := first | assumption | omega | (simp only [r_z, zae, zab, zbx, zeg] <;> omega) | decide) only [r_c, Nat.reduceAdd, D.fix, ↓reduceIte, Nat.reduceEqDiff, zby, zb1, zao, zaj, zcc, zcd, zbj, zb8]
  rw [hge, List.take_length]; simp [zhd, zbx]; omega
end
end Go.Proofs.Ytapjobndmmkanaa
