/- A memory's address. -/
import Derived.Test.YtapjobndmmkanaaQr
import Derived.Test.YtapjobndmmkanaaYj
import Derived.Test.YtapjobndmmkanaaVb
set_option linter.unusedVariables false
set_option linter.unusedSimpArgs false
set_option maxRecDepth 100000
set_option maxHeartbeats 4000000
namespace Go.Proofs.Ytapjobndmmkanaa
open Go Go.RowKit
theorem jq1 : (((type_of% @ztu) ∧ ((type_of% @jf2) ∧ (type_of% @zjy))) ∧ (((type_of% @zzu) ∧ (type_of% @zc2)) ∧ ((type_of% @zew) ∧ (type_of% @zex)))) := ⟨⟨@ztu, ⟨@jf2, @zjy⟩⟩, ⟨⟨@zzu, @zc2⟩, ⟨@zew, @zex⟩⟩⟩
theorem zwh {l : List Int} {k : Nat} (h : k < 3) : ((jit l k).map iD).set k (iD (nth l k)) = (jit l (k + 1)).map iD := by
 rcases (show k = 0 ∨ k = 1 ∨ k = 2 by omega) with rfl | rfl | rfl <;> rfl
theorem zuc {p q : Prop} (hq : q) (h : p = q := by
 conv => lhs; simp -dsimp -implicitDefEqProofs (disch := first | assumption | omega | (simp only [r_z, zep] <;> omega) | decide) only [r_r, ↓reduceIte, Nat.reduceEqDiff, Nat.reduceAdd, D.fix, Int.reduceToNat, Nat.reduceMul, Nat.reduceBNe, Nat.reduceBEq, intsD, zbj, Int.toNat_natCast, jq1]) : p := h.mpr hq
theorem ya4 {m : List Nat} {τ τ' : Fr} {H H' : zae} (h2 : H = H') (h : zfq τ τ' := by
 repeat (first | exact zas _ | refine zao ?_ (by first | rfl | (simp [r_f, zep]; done) | simp [r_f, zep, *]))) : Rt m τ H τ' H' := Rt.end h h2
theorem zou {p q r : Prop} (e : r) (hq : q) (h : r → p = q := by
 intro hY
 conv => lhs; simp -dsimp -implicitDefEqProofs (disch := first | assumption | omega | (simp only [r_z, zep] <;> omega) | decide) only [r_r, ↓reduceIte, Nat.reduceEqDiff, Nat.reduceAdd, D.fix, Int.reduceToNat, Nat.reduceMul, Nat.reduceBNe, Nat.reduceBEq, intsD, zbj, Int.toNat_natCast, jq1, hY]) : p := (h e).mpr hq
theorem zud {p q : Prop} (hq : q) (h : p = q := by
 conv => lhs; simp -dsimp -implicitDefEqProofs (disch := first | assumption | omega | (simp only [r_z, zep] <;> omega) | decide) only [r_r, ↓reduceIte, Nat.reduceEqDiff, Nat.reduceAdd, D.fix, Int.reduceToNat, Nat.reduceMul, Nat.reduceBNe, Nat.reduceBEq, intsD, zbj, Int.toNat_natCast, jit, avs, List.map_cons, List.map_nil, jq1]) : p := h.mpr hq
theorem zue {p q : Prop} (hq : q) (h : p = q := by
 conv => lhs; simp -dsimp -implicitDefEqProofs (disch := first | assumption | omega | (simp only [r_z, zep] <;> omega) | decide) only [r_r, ↓reduceIte, Nat.reduceEqDiff, Nat.reduceAdd, D.fix, Int.reduceToNat, Nat.reduceMul, Nat.reduceBNe, Nat.reduceBEq, intsD, zbj, Int.toNat_natCast, ztu, jf2]) : p := h.mpr hq
theorem jow {p q : Prop} (hq : q) (h : p = q := by
 conv => lhs; simp (disch := first | assumption | omega | (simp only [r_z, zep] <;> omega) | decide) only [r_c, Nat.reduceAdd, D.fix, ↓reduceIte, Nat.reduceEqDiff, intsD, zbj, Int.toNat_natCast]) : p := h.mpr hq
theorem yc6 {p q : Prop} (hq : q) (h : p = q := by
 conv => lhs; simp only [r_g, Nat.reduceAdd, ↓reduceIte, Nat.reduceEqDiff, intsD, zbj, Int.toNat_natCast]) : p := h.mpr hq
theorem jg4 (l : List Int) (w : Nat) (hl : l.length ≤ 100) (hw : w ≤ 8) : zbg Try.prog 103 [intsD l, iD w] (.d (.agg ((zjk l w).map iD))) := by
 refine za4 (fn := Try.f103) (by kernel_rfl) Try.func103 rfl (Nat.le_of_ble_eq_true rfl) fun c hc hp => ?_
 refine za9 (τ' := frL [(0, .d (intsD l)), (1, .d (iD w))]) (by repeat (first | exact zas _ | refine zao ?_ (by first | rfl | (simp [r_f, zep]; done) | simp [r_f, zep, *]))) ?_
 refine szq hp (fun _ hZ => zuc hZ) ?_
 refine szq hp (fun _ hZ => zuc hZ) ?_
 refine zaa fun K3 hK3 => ?_
 refine zag hp zak hc rfl fun K4 hK4 => ?_
 simp -dsimp -implicitDefEqProofs (disch := first | assumption | omega | (simp only [r_z, zep] <;> omega) | decide) only [r_r, ↓reduceIte, Nat.reduceEqDiff, Nat.reduceAdd, D.fix, Int.reduceToNat, Nat.reduceMul, Nat.reduceBNe, Nat.reduceBEq, intsD, zbj, Int.toNat_natCast]
 refine hK4 _ _ ?_
 refine zaf ?_
 refine zan hp (fun τ' H' mm => ∃ (k : Nat), (k ≤ 3 ∧ ∀ j, j < k → j < l.length ∧ 2 ^ j < w) ∧ mm = 3 - k ∧ H' = [.cells (avs ((jit l 0).map iD)), .cells (avs ((jit l k).map iD))] ∧ τ' = frL [(0, .d (intsD l)), (1, .d (iD w)), (4, .op 0 0), (5, .op 1 0), (6, .d (iD k))]) (3) ?_ ⟨0, ⟨by omega, fun j hj => by omega⟩, rfl, rfl, rfl⟩ ?_
 ·refine ya4 ?_
  rfl
 rintro τ' H' mm ⟨k, ⟨hk, hc0⟩, rfl, rfl, rfl⟩
 refine zaa fun K5 hK5 => ?_
 refine zag hp zak hc rfl fun K6 hK6 => ?_
 have hsp : (k = 0 ∧ l.length ≤ 0) ∨ (k = 0 ∧ 0 < l.length ∧ w ≤ 1) ∨ (k = 0 ∧ 0 < l.length ∧ 1 < w) ∨ (k = 1 ∧ l.length ≤ 1) ∨ (k = 1 ∧ 1 < l.length ∧ w ≤ 2) ∨ (k = 1 ∧ 1 < l.length ∧ 2 < w) ∨ (k = 2 ∧ l.length ≤ 2) ∨ (k = 2 ∧ 2 < l.length ∧ w ≤ 4) ∨ (k = 2 ∧ 2 < l.length ∧ 4 < w) ∨ (k = 3 ∧ l.length ≤ 3) ∨ (k = 3 ∧ 3 < l.length ∧ w ≤ 8) := by omega
 rcases hsp with ⟨rfl, h1⟩ | ⟨rfl, h1, h2⟩ | ⟨rfl, h1, h2⟩ | ⟨rfl, h1⟩ | ⟨rfl, h1, h2⟩ | ⟨rfl, h1, h2⟩ | ⟨rfl, h1⟩ | ⟨rfl, h1, h2⟩ | ⟨rfl, h1, h2⟩ | ⟨rfl, h1⟩ | ⟨rfl, h1, h2⟩
 ·have qb : decide (((0 : Nat) : Int) < l.length) = false := decide_eq_false (by omega)
  have hs : IntKind.i64.wrap (1 * 2 ^ min (0 : Nat) 64) = ((1 : Nat) : Int) := by decide
  have qc := qb
  refine zou (sza qb (sza hs qc)) ?_
  refine hK6 _ _ ?_
  refine szf ?_
  have he := zmj hk hc0 (by omega)
  refine zau (hK3 _ _ ?_)
  refine szq hp (fun _ hZ => zud hZ) ?_
  refine zam ?_
  try dsimp only [zco, za8]
  refine zba rfl ?_
  refine zue ?_
  show closeA _ _ = _
  refine jow ?_
  rw [← he]; rfl
 ·have qb : decide (((0 : Nat) : Int) < l.length) = true := decide_eq_true (by omega)
  have hs : IntKind.i64.wrap (1 * 2 ^ min (0 : Nat) 64) = ((1 : Nat) : Int) := by decide
  have qc : decide (((1 : Nat) : Int) < (w : Int)) = false := decide_eq_false (by omega)
  refine zou (sza qb (sza hs qc)) ?_
  refine hK6 _ _ ?_
  refine szf ?_
  have he := zmj hk hc0 (by omega)
  refine zau (hK3 _ _ ?_)
  refine szq hp (fun _ hZ => zud hZ) ?_
  refine zam ?_
  try dsimp only [zco, za8]
  refine zba rfl ?_
  refine zue ?_
  show closeA _ _ = _
  refine jow ?_
  rw [← he]; rfl
 ·have qb : decide (((0 : Nat) : Int) < l.length) = true := decide_eq_true (by omega)
  have hs : IntKind.i64.wrap (1 * 2 ^ min (0 : Nat) 64) = ((1 : Nat) : Int) := by decide
  have qc : decide (((1 : Nat) : Int) < (w : Int)) = true := decide_eq_true (by omega)
  refine zou (sza qb (sza hs qc)) ?_
  refine hK6 _ _ ?_
  refine szt ?_
  have hst := zwh (l := l) (k := 0) (by decide)
  refine zaj (hK5 _ _ ?_)
  refine zaa fun K9 hK9 => ?_
  refine zaf ?_
  refine szs hp (fun _ hZ => zuc hZ) (hK9 _ _ ?_)
  refine za1 hp zak hc rfl fun K11 hK11 => ?_
  refine zuc ?_
  refine hK11 _ _ ⟨_, _, _, ?_, ⟨1, ⟨by omega, fun j hj => by rcases (show j = 0 by omega) with rfl <;> (constructor <;> omega)⟩, rfl, rfl, rfl⟩, ?_⟩
  ·first | omega | (simp only [List.length_cons]; omega) | (dsimp only; omega)
  ·refine Rt.trans (Rt.gc (keep := [0,1]) (by decide) (by decide) (by simp [fzH, gcH])) ?_
   refine ya4 ?_
   refine yc6 ?_; rw [← hst]; simp [jit]
 ·have qb : decide (((1 : Nat) : Int) < l.length) = false := decide_eq_false (by omega)
  have hs : IntKind.i64.wrap (1 * 2 ^ min (1 : Nat) 64) = ((2 : Nat) : Int) := by decide
  have qc := qb
  refine zou (sza qb (sza hs qc)) ?_
  refine hK6 _ _ ?_
  refine szf ?_
  have he := zmj hk hc0 (by omega)
  refine zau (hK3 _ _ ?_)
  refine szq hp (fun _ hZ => zud hZ) ?_
  refine zam ?_
  try dsimp only [zco, za8]
  refine zba rfl ?_
  refine zue ?_
  show closeA _ _ = _
  refine jow ?_
  rw [← he]; rfl
 ·have qb : decide (((1 : Nat) : Int) < l.length) = true := decide_eq_true (by omega)
  have hs : IntKind.i64.wrap (1 * 2 ^ min (1 : Nat) 64) = ((2 : Nat) : Int) := by decide
  have qc : decide (((2 : Nat) : Int) < (w : Int)) = false := decide_eq_false (by omega)
  refine zou (sza qb (sza hs qc)) ?_
  refine hK6 _ _ ?_
  refine szf ?_
  have he := zmj hk hc0 (by omega)
  refine zau (hK3 _ _ ?_)
  refine szq hp (fun _ hZ => zud hZ) ?_
  refine zam ?_
  try dsimp only [zco, za8]
  refine zba rfl ?_
  refine zue ?_
  show closeA _ _ = _
  refine jow ?_
  rw [← he]; rfl
 ·have qb : decide (((1 : Nat) : Int) < l.length) = true := decide_eq_true (by omega)
  have hs : IntKind.i64.wrap (1 * 2 ^ min (1 : Nat) 64) = ((2 : Nat) : Int) := by decide
  have qc : decide (((2 : Nat) : Int) < (w : Int)) = true := decide_eq_true (by omega)
  refine zou (sza qb (sza hs qc)) ?_
  refine hK6 _ _ ?_
  refine szt ?_
  have hst := zwh (l := l) (k := 1) (by decide)
  refine zaj (hK5 _ _ ?_)
  refine zaa fun K14 hK14 => ?_
  refine zaf ?_
  refine szs hp (fun _ hZ => zuc hZ) (hK14 _ _ ?_)
  refine za1 hp zak hc rfl fun K16 hK16 => ?_
  refine zuc ?_
  refine hK16 _ _ ⟨_, _, _, ?_, ⟨2, ⟨by omega, fun j hj => by rcases (show j = 0 ∨ j = 1 by omega) with rfl | rfl <;> (constructor <;> omega)⟩, rfl, rfl, rfl⟩, ?_⟩
  ·first | omega | (simp only [List.length_cons]; omega) | (dsimp only; omega)
  ·refine Rt.trans (Rt.gc (keep := [0,1]) (by decide) (by decide) (by simp [fzH, gcH])) ?_
   refine ya4 ?_
   refine yc6 ?_; rw [← hst]; simp [jit]
 ·have qb : decide (((2 : Nat) : Int) < l.length) = false := decide_eq_false (by omega)
  have hs : IntKind.i64.wrap (1 * 2 ^ min (2 : Nat) 64) = ((4 : Nat) : Int) := by decide
  have qc := qb
  refine zou (sza qb (sza hs qc)) ?_
  refine hK6 _ _ ?_
  refine szf ?_
  have he := zmj hk hc0 (by omega)
  refine zau (hK3 _ _ ?_)
  refine szq hp (fun _ hZ => zud hZ) ?_
  refine zam ?_
  try dsimp only [zco, za8]
  refine zba rfl ?_
  refine zue ?_
  show closeA _ _ = _
  refine jow ?_
  rw [← he]; rfl
 ·have qb : decide (((2 : Nat) : Int) < l.length) = true := decide_eq_true (by omega)
  have hs : IntKind.i64.wrap (1 * 2 ^ min (2 : Nat) 64) = ((4 : Nat) : Int) := by decide
  have qc : decide (((4 : Nat) : Int) < (w : Int)) = false := decide_eq_false (by omega)
  refine zou (sza qb (sza hs qc)) ?_
  refine hK6 _ _ ?_
  refine szf ?_
  have he := zmj hk hc0 (by omega)
  refine zau (hK3 _ _ ?_)
  refine szq hp (fun _ hZ => zud hZ) ?_
  refine zam ?_
  try dsimp only [zco, za8]
  refine zba rfl ?_
  refine zue ?_
  show closeA _ _ = _
  refine jow ?_
  rw [← he]; rfl
 ·have qb : decide (((2 : Nat) : Int) < l.length) = true := decide_eq_true (by omega)
  have hs : IntKind.i64.wrap (1 * 2 ^ min (2 : Nat) 64) = ((4 : Nat) : Int) := by decide
  have qc : decide (((4 : Nat) : Int) < (w : Int)) = true := decide_eq_true (by omega)
  refine zou (sza qb (sza hs qc)) ?_
  refine hK6 _ _ ?_
  refine szt ?_
  have hst := zwh (l := l) (k := 2) (by decide)
  refine zaj (hK5 _ _ ?_)
  refine zaa fun K19 hK19 => ?_
  refine zaf ?_
  refine szs hp (fun _ hZ => zuc hZ) (hK19 _ _ ?_)
  refine za1 hp zak hc rfl fun K21 hK21 => ?_
  refine zuc ?_
  refine hK21 _ _ ⟨_, _, _, ?_, ⟨3, ⟨by omega, fun j hj => by rcases (show j = 0 ∨ j = 1 ∨ j = 2 by omega) with rfl | rfl | rfl <;> (constructor <;> omega)⟩, rfl, rfl, rfl⟩, ?_⟩
  ·first | omega | (simp only [List.length_cons]; omega) | (dsimp only; omega)
  ·refine Rt.trans (Rt.gc (keep := [0,1]) (by decide) (by decide) (by simp [fzH, gcH])) ?_
   refine ya4 ?_
   refine yc6 ?_; rw [← hst]; simp [jit]
 ·have qb : decide (((3 : Nat) : Int) < l.length) = false := decide_eq_false (by omega)
  have hs : IntKind.i64.wrap (1 * 2 ^ min (3 : Nat) 64) = ((8 : Nat) : Int) := by decide
  have qc := qb
  refine zou (sza qb (sza hs qc)) ?_
  refine hK6 _ _ ?_
  refine szf ?_
  have he := zmj hk hc0 (by omega)
  refine zau (hK3 _ _ ?_)
  refine szq hp (fun _ hZ => zud hZ) ?_
  refine zam ?_
  try dsimp only [zco, za8]
  refine zba rfl ?_
  refine zue ?_
  show closeA _ _ = _
  refine jow ?_
  rw [← he]; rfl
 ·have qb : decide (((3 : Nat) : Int) < l.length) = true := decide_eq_true (by omega)
  have hs : IntKind.i64.wrap (1 * 2 ^ min (3 : Nat) 64) = ((8 : Nat) : Int) := by decide
  have qc : decide (((8 : Nat) : Int) < (w : Int)) = false := decide_eq_false (by omega)
  refine zou (sza qb (sza hs qc)) ?_
  refine hK6 _ _ ?_
  refine szf ?_
  have he := zmj hk hc0 (by omega)
  refine zau (hK3 _ _ ?_)
  refine szq hp (fun _ hZ => zud hZ) ?_
  refine zam ?_
  try dsimp only [zco, za8]
  refine zba rfl ?_
  refine zue ?_
  show closeA _ _ = _
  refine jow ?_
  rw [← he]; rfl
/- netlist's builder: what bits gives each step of. -/
theorem jkv : (((((type_of% @zz1) ∧ (type_of% @jnw)) ∧ ((type_of% @zge) ∧ ((type_of% @zgf) ∧ (type_of% @jbk)))) ∧ (((type_of% @jbl) ∧ (type_of% @jbm)) ∧ ((type_of% @zd1) ∧ ((type_of% @zey) ∧ (type_of% @zc2))))) ∧ ((((type_of% @zew) ∧ (type_of% @zex)) ∧ ((type_of% @zgh) ∧ ((type_of% @zme) ∧ (type_of% @zmf)))) ∧ (((type_of% @zmq) ∧ (type_of% @zfa)) ∧ ((type_of% @zgs) ∧ ((type_of% @zgt) ∧ (type_of% @zmp)))))) := ⟨⟨⟨⟨@zz1, @jnw⟩, ⟨@zge, ⟨@zgf, @jbk⟩⟩⟩, ⟨⟨@jbl, @jbm⟩, ⟨@zd1, ⟨@zey, @zc2⟩⟩⟩⟩, ⟨⟨⟨@zew, @zex⟩, ⟨@zgh, ⟨@zme, @zmf⟩⟩⟩, ⟨⟨@zmq, @zfa⟩, ⟨@zgs, ⟨@zgt, @zmp⟩⟩⟩⟩⟩
theorem zrp {f : Nat → Int} {gs : Gs} : ∀ n, zbs (fun gs i => (gs, f i)) gs n = (gs, (List.range n).map f)
 | 0 => rfl
 | n + 1 => by rw [zbs, zrp n]; simp [List.range_succ]
theorem zov {a b c : Int} : Value.agg #[.int .i64 a, .int .i64 b, .int .i64 c] = wV ⟨a, b, c⟩ := rfl
def xA (al : List (List Int)) (f : FuncId) : zae := [bP, .cells [.d (intssD al)], .cells [.d (.val (.func (.func f) #[] #[]))]]
theorem jq2 {p q : Prop} (hq : q) (h : p = q := by
 conv => lhs; simp -dsimp -implicitDefEqProofs (disch := first | assumption | omega | (simp only [r_z, zab, zac] <;> omega) | decide) only [r_r, ↓reduceIte, Nat.reduceEqDiff, Nat.reduceAdd, D.fix, Int.reduceToNat, Nat.reduceMul, Nat.reduceBNe, Nat.reduceBEq, r_m, bH, bO, zar, zav, bP, List.cons_append, List.nil_append, xA, intssD]) : p := h.mpr hq
theorem jcb {p q : Prop} (hq : q) (h : p = q := by
 conv => lhs; simp -dsimp -implicitDefEqProofs (disch := first | assumption | omega | (simp only [r_z, zab, zac] <;> omega) | decide) only [r_r, ↓reduceIte, Nat.reduceEqDiff, Nat.reduceAdd, D.fix, Int.reduceToNat, Nat.reduceMul, Nat.reduceBNe, Nat.reduceBEq, r_w, r_m, bH, bO, zar, zav, bP, List.cons_append, List.nil_append, xA, intssD, zbj, jkv]) : p := h.mpr hq
theorem yc7 {P : Program} {sm : List Nat} {N : Nat} {τ0 τ : Fr} {H : zae} {f : FuncId} {args : List AV} {K0 KK : AV → zae → Prop} {ks : List Nat} (S T : zae) (h : ScS P ks f args S K0) (hK : ∀ x S', K0 x S' → S'.length = S.length ∧ KK x (S' ++ T)) (hH : H = S ++ T := by
 rfl) (hN : S.length ≤ N := by
 exact Nat.le_of_ble_eq_true rfl) (hm : sm.all (okI ks S.length) = true := by
 first | rfl | (simp [AV.allIs, AV.allI, zaq, zah, zai, okI, ltI, zad, zax, bH, bO, bP, xA]; done) | (intro o ho; simp at ho; done)) (hτ : ∀ t, (τ t).allI (okI ks S.length) = true := by
 exact fun t => zbi (by first | rfl | (simp [AV.allIs, AV.allI, zaq, zah, zai, okI, ltI, zad, zax, bH, bO, bP, xA]; done) | (intro o ho; simp at ho; done)) t) (h0 : ∀ t, (τ0 t).allI (okI ks S.length) = true := by
 exact fun t => zbi (by first | rfl | (simp [AV.allIs, AV.allI, zaq, zah, zai, okI, ltI, zad, zax, bH, bO, bP, xA]; done) | (intro o ho; simp at ho; done)) t) (ha : AV.allIs (ltI S.length) args = true := by
 first | rfl | (simp [AV.allIs, AV.allI, zaq, zah, zai, okI, ltI, zad, zax, bH, bO, bP, xA]; done) | (intro o ho; simp at ho; done)) (hS : ∀ o ∈ S, o.allI (ltI S.length) = true := by
 first | rfl | (simp [AV.allIs, AV.allI, zaq, zah, zai, okI, ltI, zad, zax, bH, bO, bP, xA]; done) | (intro o ho; simp at ho; done)) (hT : ∀ o ∈ T, o.allI (okI ks S.length) = true := by
 first | rfl | (simp [AV.allIs, AV.allI, zaq, zah, zai, okI, ltI, zad, zax, bH, bO, bP, xA]; done) | (intro o ho; simp at ho; done)) : kE P sm N τ0 τ H (.d (.val (.func (.func f) #[] #[]))) args (tg KK) := zlu h hH hN hm hτ h0 ha hS hT hK
theorem js3 (k : List Nat) {m : List Nat} {τ τ1 : Fr} {H H1 : zae} (h : Rt m (fun t => gcV k (τ t)) (gcH k H) τ1 H1) (a : ∀ i ∈ m, k[i]? = some i := by decide) (b : k.Nodup := by decide) (c : ∀ i ∈ k, i < H.length := by
 simp [fzH, gcH]) : Rt m τ H τ1 H1 := Rt.trans (Rt.gc a b c) h
theorem js4 {m : List Nat} {τ τ' : Fr} {H H' : zae} (h2 : H = H') (h : zfq τ τ' := by
 repeat (first | exact zas _ | refine zao ?_ (by first | rfl | (simp [r_f, zab, zac]; done) | simp [r_f, zab, zac, *]))) : Rt m τ H τ' H' := Rt.end h h2
theorem yc8 {p : Prop} (h : p := by
 first | rfl | (simp only [r_g, Nat.reduceAdd, ↓reduceIte, Nat.reduceEqDiff, r_m, bH, bO, zar, zav, bP, List.cons_append, List.nil_append, xA, intssD]; first | done | rfl)) : p := h
theorem jq3 (e : BE) (gs : Gs) (μ : Mp) (al : List (List Int)) (i : Nat) (x : Int) (h : BOk e gs μ) (h1 : 1 < al.length) (hi : i < (nth al 1).length) (hx : NdB (mE2 e) gs x) (hy : NdB (mE2 e) gs (nth (nth al 1) i)) : ScS Try.prog [0, 1, 3, 4, 5, 6, 7, 8, 9, 10] 125 [.d (iD i), .d (iD x), .op 10 0, .op 8 0, .op 9 0] (bH e gs μ ++ xA al 102) (jb7 e (xA al 102) (zda (mE2 e) gs x (nth (nth al 1) i))) := by
 refine zbh (fn := Try.f125) (by kernel_rfl) Try.func125 rfl (Nat.le_of_ble_eq_true rfl) fun c hc hp => ?_
 refine zls ?_
 unfold bH xA bP
 refine szq hp (fun _ hZ => jq2 hZ) ?_
 refine za6 zak hp hc mixed rfl [(0, []), (1, []), (2, []), (3, []), (4, []), (5, []), (6, []), (7, []), (8, []), (9, []), (10, [])] [[], [], [], [], [3], [3, 4], [], [3, 4, 5, 6], [3, 4, 5, 6, 7], [0, 1, 2, 3, 4, 5, 6, 7, 8], [0, 1, 2, 3, 4, 5, 6, 7, 8, 9]] 0 (by kernel_rfl) fun K2 hK2 => ?_
 refine jcb ?_
 refine yc7 (bH e gs μ) (xA al 102) (ziy e gs μ x (nth (nth al 1) i) h hx hy) ?_
 rintro _ _ ⟨μ1, hn1, rfl, rfl⟩
 refine ⟨rfl, ?_⟩
 refine jcb ?_
 refine hK2 _ _ ?_
 refine zat hp (τ' := frL [(7, .d (iD (zda (mE2 e) gs x (nth (nth al 1) i)).2))]) (H' := bH e (zda (mE2 e) gs x (nth (nth al 1) i)).1 μ1 ++ xA al 102) ?_ ?_
 ·refine js3 [0,1,2,3,4,5,6,7,8,9,10] ?_
  refine js4 ?_
  exact yc8
 refine zam ?_
 refine zap (t := 7) rfl ?_
 show ∃ _, _
 exact ⟨μ1, hn1, rfl, rfl⟩
theorem jx3 (e : BE) (gs : Gs) (μ : Mp) (al : List (List Int)) (i : Nat) (x : Int) (h : BOk e gs μ) (h1 : 1 < al.length) (hi : i < (nth al 1).length) (hx : NdB (mE2 e) gs x) (hy : NdB (mE2 e) gs (nth (nth al 1) i)) : ScS Try.prog [0, 1, 3, 4, 5, 6, 7, 8, 9, 10] 125 [.d (iD i), .d (iD x), .op 10 0, .op 8 0, .op 9 0] (bH e gs μ ++ xA al 122) (jb7 e (xA al 122) (orB (mE2 e) gs x (nth (nth al 1) i))) := by
 refine zbh (fn := Try.f125) (by kernel_rfl) Try.func125 rfl (Nat.le_of_ble_eq_true rfl) fun c hc hp => ?_
 refine zls ?_
 unfold bH xA bP
 refine szq hp (fun _ hZ => jq2 hZ) ?_
 refine za6 zak hp hc mixed rfl [(0, []), (1, []), (2, []), (3, []), (4, []), (5, []), (6, []), (7, []), (8, []), (9, []), (10, [])] [[], [], [], [], [3], [3, 4], [], [3, 4, 5, 6], [3, 4, 5, 6, 7], [0, 1, 2, 3, 4, 5, 6, 7, 8], [0, 1, 2, 3, 4, 5, 6, 7, 8, 9]] 0 (by kernel_rfl) fun K2 hK2 => ?_
 refine jcb ?_
 refine yc7 (bH e gs μ) (xA al 122) (jgx e gs μ x (nth (nth al 1) i) h hx hy) ?_
 rintro _ _ ⟨μ1, hn1, rfl, rfl⟩
 refine ⟨rfl, ?_⟩
 refine jcb ?_
 refine hK2 _ _ ?_
 refine zat hp (τ' := frL [(7, .d (iD (orB (mE2 e) gs x (nth (nth al 1) i)).2))]) (H' := bH e (orB (mE2 e) gs x (nth (nth al 1) i)).1 μ1 ++ xA al 122) ?_ ?_
 ·refine js3 [0,1,2,3,4,5,6,7,8,9,10] ?_
  refine js4 ?_
  exact yc8
 refine zam ?_
 refine zap (t := 7) rfl ?_
 show ∃ _, _
 exact ⟨μ1, hn1, rfl, rfl⟩
theorem jq4 (e : BE) (gs : Gs) (μ : Mp) (al : List (List Int)) (i : Nat) (x : Int) (h : BOk e gs μ) (h1 : 1 < al.length) (hi : i < (nth al 1).length) (hx : NdB (mE2 e) gs x) (hy : NdB (mE2 e) gs (nth (nth al 1) i)) : ScS Try.prog [0, 1, 3, 4, 5, 6, 7, 8, 9, 10] 125 [.d (iD i), .d (iD x), .op 10 0, .op 8 0, .op 9 0] (bH e gs μ ++ xA al 124) (jb7 e (xA al 124) (zhj (mE2 e) gs x (nth (nth al 1) i))) := by
 refine zbh (fn := Try.f125) (by kernel_rfl) Try.func125 rfl (Nat.le_of_ble_eq_true rfl) fun c hc hp => ?_
 refine zls ?_
 unfold bH xA bP
 refine szq hp (fun _ hZ => jq2 hZ) ?_
 refine za6 zak hp hc mixed rfl [(0, []), (1, []), (2, []), (3, []), (4, []), (5, []), (6, []), (7, []), (8, []), (9, []), (10, [])] [[], [], [], [], [3], [3, 4], [], [3, 4, 5, 6], [3, 4, 5, 6, 7], [0, 1, 2, 3, 4, 5, 6, 7, 8], [0, 1, 2, 3, 4, 5, 6, 7, 8, 9]] 0 (by kernel_rfl) fun K2 hK2 => ?_
 refine jcb ?_
 refine yc7 (bH e gs μ) (xA al 124) (jae e gs μ x (nth (nth al 1) i) h hx hy) ?_
 rintro _ _ ⟨μ1, hn1, rfl, rfl⟩
 refine ⟨rfl, ?_⟩
 refine jcb ?_
 refine hK2 _ _ ?_
 refine zat hp (τ' := frL [(7, .d (iD (zhj (mE2 e) gs x (nth (nth al 1) i)).2))]) (H' := bH e (zhj (mE2 e) gs x (nth (nth al 1) i)).1 μ1 ++ xA al 124) ?_ ?_
 ·refine js3 [0,1,2,3,4,5,6,7,8,9,10] ?_
  refine js4 ?_
  exact yc8
 refine zam ?_
 refine zap (t := 7) rfl ?_
 show ∃ _, _
 exact ⟨μ1, hn1, rfl, rfl⟩
theorem jx4 {p q : Prop} (hq : q) (h : p = q := by
 conv => lhs; simp -dsimp -implicitDefEqProofs (disch := first | assumption | omega | (simp only [r_z, zab, zac] <;> omega) | decide) only [r_r, ↓reduceIte, Nat.reduceEqDiff, Nat.reduceAdd, D.fix, Int.reduceToNat, Nat.reduceMul, Nat.reduceBNe, Nat.reduceBEq, r_w, r_m, bH, bO, zar, zav, bP, List.cons_append, List.nil_append, intssD, zbj, jkv]) : p := h.mpr hq
theorem yc9 (e : BE) (gs : Gs) (μ : Mp) (al : List (List Int)) (i : Nat) (x : Int) (h : BOk e gs μ) (h2 : 2 < al.length) (h0 : 0 < (nth al 0).length) (hi : i < (nth al 2).length) (hcc : NdB (mE2 e) gs (nth (nth al 0) 0)) (hx : NdB (mE2 e) gs x) (hy : NdB (mE2 e) gs (nth (nth al 2) i)) (hl : gs.length + 2 ≤ 100000) : ScS Try.prog [0, 1, 3, 4, 5, 6, 7, 8, 9] 132 [.d (iD i), .d (iD x), .op 8 0, .op 9 0] (bH e gs μ ++ [bP, .cells [.d (intssD al)]]) (jb7 e [bP, .cells [.d (intssD al)]] (zj0 (mE2 e) gs (nth (nth al 0) 0) x (nth (nth al 2) i))) := by
 refine zbh (fn := Try.f132) (by kernel_rfl) Try.func132 rfl (Nat.le_of_ble_eq_true rfl) fun c hc hp => ?_
 refine zkf ?_
 unfold bH bP
 refine zag hp zak hc rfl fun K1 hK1 => ?_
 simp -dsimp -implicitDefEqProofs (disch := first | assumption | omega | (simp only [r_z, zab, zac] <;> omega) | decide) only [r_r, ↓reduceIte, Nat.reduceEqDiff, Nat.reduceAdd, D.fix, Int.reduceToNat, Nat.reduceMul, Nat.reduceBNe, Nat.reduceBEq, r_m, bH, bO, zar, zav, bP, List.cons_append, List.nil_append, intssD]
 refine hK1 _ _ ?_
 refine za6 zak hp hc mixed rfl [(0, []), (1, []), (2, []), (3, []), (4, []), (5, []), (6, []), (7, []), (8, []), (9, []), (10, []), (11, []), (12, []), (13, []), (14, [])] [[], [], [1], [1, 2], [1, 2, 3], [1, 2, 3, 4], [], [], [7], [7, 8], [], [7, 8, 9, 10], [7, 8, 9, 10, 11], [0, 1, 2, 3, 4, 5, 6, 7, 8, 9, 10, 11, 12], [0, 1, 2, 3, 4, 5, 6, 7, 8, 9, 10, 11, 12, 13]] 0 (by kernel_rfl) fun K2 hK2 => ?_
 refine jx4 ?_
 refine zlu (S := bH e gs μ) (T := [bP, .cells [.d (intssD al)]]) (jor e gs μ (nth (nth al 0) 0) x (nth (nth al 2) i) h hcc hx hy hl) rfl (Nat.le_of_ble_eq_true rfl) (by first | rfl | (simp [AV.allIs, AV.allI, zaq, zah, zai, okI, ltI, zad, zax, bH, bO, bP]; done) | (intro o ho; simp at ho; done)) (fun t => zbi (by first | rfl | (simp [AV.allIs, AV.allI, zaq, zah, zai, okI, ltI, zad, zax, bH, bO, bP]; done) | (intro o ho; simp at ho; done)) t) (fun t => zbi (by first | rfl | (simp [AV.allIs, AV.allI, zaq, zah, zai, okI, ltI, zad, zax, bH, bO, bP]; done) | (intro o ho; simp at ho; done)) t) (by first | rfl | (simp [AV.allIs, AV.allI, zaq, zah, zai, okI, ltI, zad, zax, bH, bO, bP]; done) | (intro o ho; simp at ho; done)) (by first | rfl | (simp [AV.allIs, AV.allI, zaq, zah, zai, okI, ltI, zad, zax, bH, bO, bP]; done) | (intro o ho; simp at ho; done)) (by first | rfl | (simp [AV.allIs, AV.allI, zaq, zah, zai, okI, ltI, zad, zax, bH, bO, bP]; done) | (intro o ho; simp at ho; done)) ?_
 rintro _ _ ⟨μ1, hn1, rfl, rfl⟩
 refine ⟨rfl, ?_⟩
 refine jx4 ?_
 refine hK2 _ _ ?_
 refine zat hp (τ' := frL [(6, .d (iD (zj0 (mE2 e) gs (nth (nth al 0) 0) x (nth (nth al 2) i)).2))]) (H' := bH e (zj0 (mE2 e) gs (nth (nth al 0) 0) x (nth (nth al 2) i)).1 μ1 ++ [bP, .cells [.d (intssD al)]]) ?_ ?_
 ·refine js3 [0,1,2,3,4,5,6,7,8,9] ?_
  refine js4 ?_
  first | rfl | (simp only [r_g, Nat.reduceAdd, ↓reduceIte, Nat.reduceEqDiff, r_m, bH, bO, zar, zav, bP, List.cons_append, List.nil_append, intssD]; first | done | rfl)
 refine zam ?_
 refine zap (t := 6) rfl ?_
 show ∃ _, _
 exact ⟨μ1, hn1, rfl, rfl⟩
theorem jx5 {p q : Prop} (hq : q) (h : p = q := by
 conv => lhs; simp -dsimp -implicitDefEqProofs (disch := first | assumption | omega | (simp only [r_z, zab, zac] <;> omega) | decide) only [r_r, ↓reduceIte, Nat.reduceEqDiff, Nat.reduceAdd, D.fix, Int.reduceToNat, Nat.reduceMul, Nat.reduceBNe, Nat.reduceBEq, r_m, bH, bO, zar, zav, bP, List.cons_append, List.nil_append]) : p := h.mpr hq
theorem yfx {p : Prop} (h : p := by
 first | rfl | (simp only [r_g, Nat.reduceAdd, ↓reduceIte, Nat.reduceEqDiff, r_m, bH, bO, zar, zav, bP, List.cons_append, List.nil_append]; first | done | rfl)) : p := h
theorem yda (e : BE) (gs : Gs) (μ : Mp) (v i : Nat) (x : Int) (hn : NdM (mE2 e) gs μ) (hv : v < 2 ^ 62) (hi : i ≤ 60) : ScS Try.prog [0, 1, 3, 4, 5, 6, 7, 8] 126 [.d (iD i), .d (iD x), .op 8 0] (bH e gs μ ++ [.cells [.d (iD v)]]) (jb7 e [.cells [.d (iD v)]] (gs, ((v / 2 ^ i % 2 : Nat) : Int))) := by
 refine zbh (fn := Try.f126) (by kernel_rfl) Try.func126 rfl (Nat.le_of_ble_eq_true rfl) fun c hc hp => ?_
 refine ze8 ?_
 unfold bH
 have hbv := ycw (v := v) (k := i) hv (by omega)
 refine szq hp (fun _ hZ => jx5 hZ) ?_
 refine zag hp zak hc rfl fun K2 hK2 => ?_
 simp -dsimp -implicitDefEqProofs (disch := first | assumption | omega | (simp only [r_z, zab, zac] <;> omega) | decide) only [r_r, ↓reduceIte, Nat.reduceEqDiff, Nat.reduceAdd, D.fix, Int.reduceToNat, Nat.reduceMul, Nat.reduceBNe, Nat.reduceBEq, r_m, bH, bO, zar, zav, bP, List.cons_append, List.nil_append, hbv, Int.toNat_natCast, jkv]
 refine hK2 _ _ ?_
 refine zat hp (τ' := frL [(5, .d (iD ((v / 2 ^ i % 2 : Nat) : Int)))]) (H' := bH e gs μ ++ [.cells [.d (iD v)]]) ?_ ?_
 ·refine js3 [0,1,2,3,4,5,6,7,8] ?_
  refine js4 ?_
  exact yfx
 refine zam ?_
 refine zap (t := 5) rfl ?_
 show ∃ _, _
 exact ⟨μ, hn, rfl, rfl⟩
theorem ydb (e : BE) (gs : Gs) (μ : Mp) (j i : Nat) (x : Int) (hn : NdM (mE2 e) gs μ) (hm : InM e.ins e.mi) (hw : (⟨1, (j : Int), (i : Int)⟩ : Wire) ∈ e.ins) (hj : j ≤ 1000) (hi : i ≤ 1000) : ScS Try.prog [0, 1, 3, 4, 5, 6, 7, 8, 9] 127 [.d (iD i), .d (iD x), .op 8 0, .op 9 0] (bH e gs μ ++ [bP, .cells [.d (iD j)]]) (jb7 e [bP, .cells [.d (iD j)]] (gs, ((2 + zo8 ⟨1, (j : Int), (i : Int)⟩ e.ins : Nat) : Int))) := by
 refine zbh (fn := Try.f127) (by kernel_rfl) Try.func127 rfl (Nat.le_of_ble_eq_true rfl) fun c hc hp => ?_
 refine zkf ?_
 unfold bH bP
 have hkey : zsa Try.prog tWm (wV ⟨1, (j : Int), (i : Int)⟩) := zty (a := 1) (b := (j : Int)) (c := (i : Int)) (zpp (by decide) (by decide)) (zpp (by omega) (by omega)) (zpp (by omega) (by omega))
 have hgm := hm.gt ⟨1, (j : Int), (i : Int)⟩
 rw [if_pos hw] at hgm
 refine szq hp (fun _ hZ => jx5 hZ) ?_
 refine za5 zak hc mixed rfl (q := 0) (by kernel_rfl) (by kernel_rfl) fun K2 hK2 => ?_
 simp -dsimp -implicitDefEqProofs (disch := first | assumption | omega | (simp only [r_z, zab, zac] <;> omega) | decide) only [r_r, ↓reduceIte, Nat.reduceEqDiff, Nat.reduceAdd, D.fix, Int.reduceToNat, Nat.reduceMul, Nat.reduceBNe, Nat.reduceBEq, r_m, bH, bO, zar, zav, bP, List.cons_append, List.nil_append, zov, ztn, jp0 ya0 hkey hm.ok, hgm, Option.getD_some, jkv]
 refine hK2 _ _ ?_
 refine zat hp (τ' := frL [(6, .d (iD ((2 + zo8 ⟨1, (j : Int), (i : Int)⟩ e.ins : Nat) : Int)))]) (H' := bH e gs μ ++ [bP, .cells [.d (iD j)]]) ?_ ?_
 ·refine js3 [0,1,2,3,4,5,6,7,8,9] ?_
  refine js4 ?_
  exact yfx
 refine zam ?_
 refine zap (t := 6) rfl ?_
 show ∃ _, _
 exact ⟨μ, hn, rfl, rfl⟩
end Go.Proofs.Ytapjobndmmkanaa
