/- Which diagrams are valid. -/
import Derived.Test.YtgfnpfchdlcoeaaQr
import Derived.Test.YtgfnpfchdlcoeaaQ
import Derived.Test.YtgfnpfchdlcoeaaCn
set_option linter.unusedVariables false
set_option linter.unusedSimpArgs false
set_option maxRecDepth 100000
set_option maxHeartbeats 4000000
namespace Go.Proofs.Ytgfnpfchdlcoeaa
open Go Go.RowKit
structure NI where
 v : Int
 lo : Int
 hi : Int
deriving DecidableEq, Inhabited
def niC (n : NI) : List D := [iD n.v, iD n.lo, iD n.hi]
def niV (n : NI) : Value := .agg #[.int .i64 n.v, .int .i64 n.lo, .int .i64 n.hi]
def niA (n : NI) : List AV := [.d (iD n.v), .d (iD n.lo), .d (iD n.hi)]
theorem jqp (n : NI) : (niC n).length = 3 := rfl
theorem zsx {l : List NI} {k : Nat} (h : k < l.length) : zc9 (l.flatMap niC) (k * 3) 3 = some (niC (nth l k)) := zg9 jqp h
theorem jjs {l : List NI} {k : Nat} (h : k < l.length) : (l.flatMap niC)[k * 3]? = some (iD (nth l k).v) := (zf3 (j := 0) jqp h (by omega)).trans rfl
theorem za0 {l : List NI} : (l.flatMap niC).length = l.length * 3 := zez jqp l
def zee (ns : List NI) (rs : List Int) : List D := [.fs (ns.flatMap niC) ns.length, .fs (rs.map iD) rs.length]
def zi2 (ns : List NI) (rs : List Int) : D := .agg (zee ns rs)
structure N64 (n : NI) : Prop where
 v : I64 n.v
 lo : I64 n.lo
 hi : I64 n.hi
def kB (ns : List NI) (i : Nat) (v k : Int) : Bool := decide (0 ≤ k) && (decide (k < i + 2) && (decide (k < 2) || decide (v < (nth ns (k - 2).toNat).v)))
def vB (ns : List NI) (i : Nat) : Bool := decide (0 ≤ (nth ns i).v) && (decide ((nth ns i).v ≤ 999) && (decide ((nth ns i).lo ≠ (nth ns i).hi) && (decide (nth ns i ∉ ns.take i) && (kB ns i (nth ns i).v (nth ns i).lo && kB ns i (nth ns i).v (nth ns i).hi))))
def jfh (c k : Int) : Bool := decide (0 ≤ k) && decide (k < c)
def zhc (ns : List NI) (rs : List Int) : Bool := decide (ns.length ≤ 3000) && ((List.range ns.length).all (vB ns) && rs.all (jfh (2 + ns.length)))
theorem jfi {ns : List NI} {rs : List Int} (h : 3000 < ns.length) : zhc ns rs = false := by unfold zhc; rw [decide_eq_false (by omega)]; rfl
theorem zft {ns : List NI} {rs : List Int} {i : Nat} (hi : i < ns.length) (h : vB ns i = false) : zhc ns rs = false := by
 unfold zhc
 have : (List.range ns.length).all (vB ns) = false := by
  rw [List.all_eq_false]
  exact ⟨i, List.mem_range.2 hi, by simp [h]⟩
 rw [this]; simp
theorem jfj {ns : List NI} {rs : List Int} (h0 : ns.length ≤ 3000) (h : ∀ i, i < ns.length → vB ns i = true) : zhc ns rs = rs.all (jfh (2 + ns.length)) := by
 unfold zhc
 have : (List.range ns.length).all (vB ns) = true := List.all_eq_true.2 fun i hi => h i (List.mem_range.1 hi)
 rw [this, decide_eq_true h0]; rfl
theorem jh9 (c k : Int) : (!jfh c k) = zh7 c k := by
 unfold jfh zh7
 rw [Bool.eq_iff_iff]; simp <;> omega
theorem zoz (c : Int) (l : List Int) : l.all (jfh c) = !l.any (zh7 c) := by
 rw [List.all_eq_not_any_not]
 congr 1
 exact congrArg (List.any l) (funext fun k => jh9 c k)
theorem jrw (ns : List NI) (rs : List Int) (k : Int) (hl : ns.length ≤ 3000) : zbi Try.prog 45 [iD k, .fp (zee ns rs) 0] (.d (oD (zh7 (2 + ns.length) k))) := by
 refine za8 (fn := Try.f45) (by kernel_rfl) Try.func45 rfl (Nat.le_of_ble_eq_true rfl) fun c hc hp => ?_
 refine zba (τ' := frL [(0, .d (iD k)), (1, .d (.fp (zee ns rs) 0))]) (zaa (zaa (zae _) rfl) rfl) ?_
 refine zab hp zad hc rfl fun K1 hK1 => ?_
 simp -dsimp -implicitDefEqProofs (disch := first | assumption | omega | (simp [maxLen, zah, za0] <;> omega) | decide) only [q_r, iD, zee]
 refine hK1 _ _ ?_
 refine zab hp zad hc rfl fun K2 hK2 => ?_
 rcases tf (decide (k < 0)) with q | q
 ·simp -dsimp -implicitDefEqProofs (disch := first | assumption | omega | (simp [maxLen, zah, za0] <;> omega) | decide) only [q_r, ↓reduceIte, Nat.reduceEqDiff, q]
  refine hK2 _ _ ?_
  refine zao ?_
  show zaj _ _ = _
  simp (disch := first | assumption | omega | (simp [maxLen, zah, za0] <;> omega) | decide) only [zaj, zct, za1, D.fix, zat, ↓reduceIte, Option.map_some, List.length_nil, oD]
  simp [zh7, q]
 ·simp -dsimp -implicitDefEqProofs (disch := first | assumption | omega | (simp [maxLen, zah, za0] <;> omega) | decide) only [q_r, zam, zac, zc1, zar, ↓reduceIte, Nat.reduceEqDiff, q, zbk, zcj, zck, zcm]
  refine hK2 _ _ ?_
  refine zao ?_
  show zaj _ _ = _
  simp (disch := first | assumption | omega | (simp [maxLen, zah, za0] <;> omega) | decide) only [zaj, zct, za1, D.fix, zat, ↓reduceIte, Option.map_some, List.length_nil, oD]
  simp [zh7, q]
abbrev jm4 (ns : List NI) (rs : List Int) : D := .clo (.func 45) [] [.fp (zee ns rs) 0]
theorem jl1 (ns : List NI) (rs l : List Int) (hns : ns.length ≤ 3000) (hl : l.length ≤ maxLen) : RCalls Try.prog 66 [zay l, jm4 ns rs] (fun r => ∃ z : Int, r = .d (iD z) ∧ (0 ≤ z ↔ l.any (zh7 (2 + ns.length)) = true)) := by
 unfold maxLen at hl
 refine zgr (fn := Try.f66) (by kernel_rfl) Try.func66 rfl (Nat.le_of_ble_eq_true rfl) fun c hc hp => ?_
 refine zba (τ' := frL [(0, .d (zay l)), (1, .d (jm4 ns rs))]) (zaa (zaa (zae _) rfl) rfl) ?_
 refine zab hp zad hc rfl fun K1 hK1 => ?_
 simp -dsimp -implicitDefEqProofs (disch := first | assumption | omega | (simp [maxLen, zah] <;> omega) | decide) only [q_r, zay]
 refine hK1 _ _ ?_
 refine zaf fun K2 hK2 => ?_
 refine zab hp zad hc rfl fun K3 hK3 => ?_
 simp -dsimp -implicitDefEqProofs (disch := first | assumption | omega | (simp [maxLen, zah] <;> omega) | decide) only [q_r, zc1, zar, ↓reduceIte, Nat.reduceEqDiff, zc3]
 refine hK3 _ _ ?_
 refine zaq ?_
 refine za4 hp (fun τ' H' mm => ∃ k, (k ≤ l.length ∧ (l.take k).any (zh7 (2 + ns.length)) = false) ∧ mm = l.length - k ∧ H' = [] ∧ τ' = frL [(0, .d (zay l)), (1, .d (jm4 ns rs)), (7, .d (iD l.length)), (8, .d (iD k))]) (l.length) ?_ ⟨0, ⟨Nat.zero_le _, rfl⟩, rfl, rfl, rfl⟩ ?_
 ·refine Rt.end (zaa (zaa (zaa (zaa (zae _) rfl) rfl) rfl) rfl) ?_
  first | rfl | (simp only [zay, zas, zbm, zbr, zbp, gcH, zbb, zc7, zc0, zcq, zi5, zap, zcb, gcV, zei, fzH, zen, zdc, zdf, zbw, Nat.reduceAdd, zga, fzV, zcp, za2, zav, List.map_cons, List.map_nil, List.getD_cons_zero, List.getD_cons_succ, ↓reduceIte, Nat.reduceEqDiff, Option.map_some, List.set_cons_zero, List.set_cons_succ, zbf, zax, Nat.mul_one, List.length_map, List.cons_append, List.nil_append]; first | done | rfl)
 rintro τ' H' mm ⟨k, ⟨hk, hno⟩, rfl, rfl, rfl⟩
 refine zab hp zad hc rfl fun K4 hK4 => ?_
 simp -dsimp -implicitDefEqProofs (disch := first | assumption | omega | (simp [maxLen, zah] <;> omega) | decide) only [q_r, ↓reduceIte, Nat.reduceEqDiff, iD, zay]
 refine hK4 _ _ ?_
 refine zaf fun K5 hK5 => ?_
 refine zag rfl (fun ht => ?_) (fun ht => ?_)
 ·have hlt : k < l.length := by simp at ht; omega
  refine zan (hK5 _ _ ?_)
  refine zaf fun K6 hK6 => ?_
  refine zaq ?_
  refine zab hp zad hc rfl fun K7 hK7 => ?_
  simp -dsimp -implicitDefEqProofs (disch := first | assumption | omega | (simp [maxLen, zah] <;> omega) | decide) only [q_r, ↓reduceIte, Nat.reduceEqDiff]
  refine hK7 _ _ ?_
  refine zab hp zad hc rfl fun K8 hK8 => ?_
  simp -dsimp -implicitDefEqProofs (disch := first | assumption | omega | (simp [maxLen, zah] <;> omega) | decide) only [q_r, zam, ixO, zai, ↓reduceIte, Int.toNat_natCast, Nat.reduceEqDiff, iD, zc3, zci, zcn]
  refine jds (fi := []) (ca := [.fp (zee ns rs) 0]) (ds := [iD (nth l k)]) (jrw ns rs (nth l k) hns) rfl ?_
  simp -dsimp -implicitDefEqProofs (disch := first | assumption | omega | (simp [maxLen, zah] <;> omega) | decide) only [q_r, oD]
  refine hK8 _ _ ?_
  refine zag rfl (fun ht => ?_) (fun ht => ?_)
  ·have hy := ht
   refine zab hp zad hc rfl fun K9 hK9 => ?_
   simp -dsimp -implicitDefEqProofs (disch := first | assumption | omega | (simp [maxLen, zah] <;> omega) | decide) only [q_r, ↓reduceIte, Nat.reduceEqDiff]
   refine hK9 _ _ ?_
   refine zao ?_
   show ∃ r, zaj _ _ = some r ∧ _
   simp (disch := first | assumption | omega | (simp [maxLen, zah] <;> omega) | decide) only [zaj, zct, za1, D.fix, zat, ↓reduceIte, Option.map_some, List.length_nil, iD]
   exact ⟨_, rfl, _, rfl, fun _ => zgo hlt hy, fun _ => by omega⟩
  ·refine zan (hK6 _ _ ?_)
   refine zbs hp zad hc rfl fun K10 hK10 => ?_
   simp -dsimp -implicitDefEqProofs (disch := first | assumption | omega | (simp [maxLen, zah] <;> omega) | decide) only [q_r, ↓reduceIte, Nat.reduceEqDiff]
   refine hK10 _ _ ⟨_, _, _, ?_, ⟨k + 1, ⟨by omega, by rw [zmg hlt, hno, ht]; rfl⟩, rfl, rfl, rfl⟩, ?_⟩
   ·first | omega | (simp only [List.length_cons]; omega) | (dsimp only; omega)
   ·refine Rt.end (zaa (zaa (zaa (zaa (zae _) rfl) rfl) rfl) rfl) ?_
    first | rfl | (simp only [zay, zas, zbm, zbr, zbp, gcH, zbb, zc7, zc0, zcq, zi5, zap, zcb, gcV, zei, fzH, zen, zdc, zdf, zbw, Nat.reduceAdd, zga, fzV, zcp, za2, zav, List.map_cons, List.map_nil, List.getD_cons_zero, List.getD_cons_succ, ↓reduceIte, Nat.reduceEqDiff, Option.map_some, List.set_cons_zero, List.set_cons_succ, zbf, zax, Nat.mul_one, List.length_map, List.cons_append, List.nil_append]; first | done | rfl)
 ·have hge : k = l.length := by simp at ht; omega
  rw [hge, List.take_length] at hno
  refine zbd (hK2 _ _ ?_)
  refine zab hp zad hc rfl fun K11 hK11 => ?_
  simp -dsimp -implicitDefEqProofs (disch := first | assumption | omega | (simp [maxLen, zah] <;> omega) | decide) only [q_r]
  refine hK11 _ _ ?_
  refine zao ?_
  show ∃ r, zaj _ _ = some r ∧ _
  simp (disch := first | assumption | omega | (simp [maxLen, zah] <;> omega) | decide) only [zaj, zct, za1, D.fix, zat, ↓reduceIte, Option.map_some, List.length_nil, iD]
  exact ⟨_, rfl, _, rfl, fun h => by omega, fun h => by rw [hno] at h; cases h⟩
theorem jcd (ns : List NI) (rs l : List Int) (hns : ns.length ≤ 3000) (hl : l.length ≤ maxLen) : zbi Try.prog 44 [zay l, jm4 ns rs] (.d (oD (l.any (zh7 (2 + ns.length))))) := by
 refine za8 (fn := Try.f44) (by kernel_rfl) Try.func44 rfl (Nat.le_of_ble_eq_true rfl) fun c hc hp => ?_
 refine zba (τ' := frL [(0, .d (zay l)), (1, .d (jm4 ns rs))]) (zaa (zaa (zae _) rfl) rfl) ?_
 refine zab hp zad hc rfl fun K1 hK1 => ?_
 simp -dsimp -implicitDefEqProofs (disch := first | assumption | omega | (simp [maxLen, zah] <;> omega) | decide) only [q_r, zay]
 refine hK1 _ _ ?_
 refine zab hp zad hc rfl fun K2 hK2 => ?_
 simp -dsimp -implicitDefEqProofs (disch := first | assumption | omega | (simp [maxLen, zah] <;> omega) | decide) only [q_r, ↓reduceIte, Nat.reduceEqDiff]
 refine zvg (jl1 ns rs l hns hl) rfl fun r hr => ?_
 obtain ⟨z, rfl, hz⟩ := hr
 simp -dsimp -implicitDefEqProofs (disch := first | assumption | omega | (simp [maxLen, zah] <;> omega) | decide) only [q_r, ↓reduceIte, iD]
 refine hK2 _ _ ?_
 refine zao ?_
 show zaj _ _ = _
 simp (disch := first | assumption | omega | (simp [maxLen, zah] <;> omega) | decide) only [zaj, zct, za1, D.fix, zat, ↓reduceIte, Option.map_some, List.length_nil, oD]
 congr 4
 rw [Bool.eq_iff_iff, decide_eq_true_iff]
 exact hz
abbrev tV : TypeId := 96
theorem mtV : mtB Try.prog KT tV = some (.bool false) := by kernel_rfl
theorem jjt {n : NI} (h : N64 n) : zqy Try.prog tV (niV n) := by
 obtain ⟨ha, hb, hc⟩ := h
 refine ⟨rfl, fun kt et hm => ?_⟩
 have h0 : zh9 Try.prog tV = some (83, 4) := by kernel_rfl
 rw [h0] at hm; cases hm
 exact (jjk ha hb hc).2 _ 3 (by kernel_rfl)
theorem jl2 {m n : NI} (h : niV m = niV n) : m = n := by
 cases m; cases n
 simp only [niV, Value.agg.injEq, Array.mk.injEq, List.cons.injEq, Value.int.injEq, true_and, and_true] at h
 obtain ⟨rfl, rfl, rfl⟩ := h
 rfl
theorem zue {n : NI} : Value.agg #[.int .i64 n.v, .int .i64 n.lo, .int .i64 n.hi] = niV n := rfl
structure SOk (ns : List NI) (μ : Mp) : Prop where
 ok : OkM Try.prog tV μ
 get : ∀ n, zig (niV n) μ = if n ∈ ns then some (.bool true) else none
theorem SOk.nil : SOk [] ([], 0) := ⟨OkM.nil _ _, fun n => rfl⟩
theorem SOk.add {ns : List NI} {μ : Mp} (h : SOk ns μ) {n : NI} (hn : N64 n) : SOk (ns ++ [n]) (zpm (niV n) (.bool true) μ) := by
 refine ⟨h.ok.put (jjt hn), fun m => ?_⟩
 classical
 rw [zha (rfl : zjz (niV n) = true) rfl, h.get m]
 by_cases e : m = n
 ·subst e; simp
 ·rw [if_neg fun e' => e (jl2 e')]; simp [e]
theorem or4 (a b c d : Bool) : a = true ∨ (a = false ∧ b = true) ∨ (a = false ∧ b = false ∧ c = true) ∨ (a = false ∧ b = false ∧ c = false ∧ d = true) ∨ (a = false ∧ b = false ∧ c = false ∧ d = false) := by
 cases a <;> cases b <;> cases c <;> cases d <;> simp
theorem jrx {ns : List NI} {i : Nat} (h : kB ns i (nth ns i).v (nth ns i).lo = false ∨ kB ns i (nth ns i).v (nth ns i).hi = false) : vB ns i = false := by
 unfold vB
 rcases h with h | h <;> simp [h]
theorem zxu (ns : List NI) (rs : List Int) (hI : ∀ n ∈ ns, N64 n) (hnl : ns.length ≤ maxLen) (hrl : rs.length ≤ maxLen) : zbi Try.prog 17 [zi2 ns rs] (.d (oD (zhc ns rs))) := by
 unfold maxLen at hnl
 refine za8 (fn := Try.f17) (by kernel_rfl) Try.func17 rfl (Nat.le_of_ble_eq_true rfl) fun c hc hp => ?_
 refine zba (τ' := frL [(0, .d (zi2 ns rs))]) (zaa (zae _) rfl) ?_
 refine zab hp zad hc rfl fun K1 hK1 => ?_
 simp -dsimp -implicitDefEqProofs (disch := first | assumption | omega | (simp [maxLen, zah, za0] <;> omega) | decide) only [q_r, zau, zb0, ↓reduceIte, D.one, zau, zi2, zee]
 refine hK1 _ _ ?_
 refine zaf fun K2 hK2 => ?_
 refine zab hp zad hc rfl fun K3 hK3 => ?_
 simp -dsimp -implicitDefEqProofs (disch := first | assumption | omega | (simp [maxLen, zah, za0] <;> omega) | decide) only [q_r, zam, zac, zc1, zar, ↓reduceIte, Nat.reduceEqDiff, zbk, zcj, zck, zcm]
 refine hK3 _ _ ?_
 refine zag rfl (fun ht => ?_) (fun ht => ?_)
 ·have hbig : 3000 < ns.length := by simp at ht; omega
  refine zab hp zad hc rfl fun K4 hK4 => ?_
  simp -dsimp -implicitDefEqProofs (disch := first | assumption | omega | (simp [maxLen, zah, za0] <;> omega) | decide) only [q_r]
  refine hK4 _ _ ?_
  refine zao ?_
  show zaj _ _ = _
  simp (disch := first | assumption | omega | (simp [maxLen, zah, za0] <;> omega) | decide) only [zaj, zct, za1, Nat.zero_add, D.fix, zat, ↓reduceIte, Option.map_some, List.length_cons, List.length_nil, oD]
  rw [jfi hbig]
 ·have hsm : ns.length ≤ 3000 := by simp at ht; omega
  refine zan (hK2 _ _ ?_)
  refine zab hp zad hc rfl fun K5 hK5 => ?_
  simp -dsimp -implicitDefEqProofs (disch := first | assumption | omega | (simp [maxLen, zah, za0] <;> omega) | decide) only [q_r, zau, zb0, ↓reduceIte, zau, jkv]
  refine hK5 _ _ ?_
  refine zaf fun K6 hK6 => ?_
  refine zab hp zad hc rfl fun K7 hK7 => ?_
  simp -dsimp -implicitDefEqProofs (disch := first | assumption | omega | (simp [maxLen, zah, za0] <;> omega) | decide) only [q_r, zam, zac, zc1, zar, ↓reduceIte, Nat.reduceEqDiff, Nat.reduceAdd, zbk, zcj, zck, zcm]
  refine hK7 _ _ ?_
  refine zaq ?_
  refine za4 hp (fun τ' H' mm => ∃ (i : Nat) (μ : Mp), (i ≤ ns.length ∧ SOk (ns.take i) μ ∧ ∀ j, j < i → vB ns j = true) ∧ mm = ns.length - i ∧ H' = [.cells (avs (zee ns rs)), mO μ] ∧ τ' = frL [(1, .op 0 0), (3, .om 1), (14, .d (.fs (ns.flatMap niC) ns.length)), (15, .d (iD ns.length)), (16, .d (iD i))]) (ns.length) ?_ ⟨0, ([], 0), ⟨Nat.zero_le _, SOk.nil, fun j hj => absurd hj (by omega)⟩, rfl, rfl, rfl⟩ ?_
  ·refine Rt.end (zaa (zaa (zaa (zaa (zaa (zae _) rfl) rfl) rfl) rfl) rfl) ?_
   first | rfl | (simp only [zay, zas, zbm, zbr, zbp, gcH, zbb, zc7, zc0, zcq, zi5, zap, zcb, gcV, zei, fzH, zen, zdc, zdf, zbw, Nat.reduceAdd, zga, fzV, zcp, za2, zav, List.map_cons, List.map_nil, List.getD_cons_zero, List.getD_cons_succ, ↓reduceIte, Nat.reduceEqDiff, Option.map_some, List.set_cons_zero, List.set_cons_succ, zbf, zax, Nat.mul_one, List.length_map, List.cons_append, List.nil_append, zih, zou, zn6, zow, zy5, zox, zy6, jku, zgf, ziw, zw8, zhw, zdv, zcy, zcq, zi5, zfk, zpo, jeg, jkv, zi2, zee, niA]; first | done | rfl)
  rintro τ' H' mm ⟨i, μ, ⟨hi, hS, hv⟩, rfl, rfl, rfl⟩
  refine zab hp zad hc rfl fun K8 hK8 => ?_
  simp -dsimp -implicitDefEqProofs (disch := first | assumption | omega | (simp [maxLen, zah, za0] <;> omega) | decide) only [q_r, ↓reduceIte, Nat.reduceEqDiff, iD, zee]
  refine hK8 _ _ ?_
  refine zaf fun K9 hK9 => ?_
  refine zag rfl (fun ht => ?_) (fun ht => ?_)
  ·have hlt : i < ns.length := by simp at ht; omega
   have hn := hI _ (zcf hlt)
   have hk := jjt hn
   have hgm := hS.get (nth ns i)
   refine zan (hK9 _ _ ?_)
   refine zaf fun K10 hK10 => ?_
   refine zaq ?_
   refine zab hp zad hc rfl fun K11 hK11 => ?_
   simp -dsimp -implicitDefEqProofs (disch := first | assumption | omega | (simp [maxLen, zah, za0] <;> omega) | decide) only [q_r, zau, zam, ixO, zai, zb0, za6, ↓reduceIte, D.one, Value.oneCell', Int.toNat_natCast, Nat.reduceEqDiff, iD, Nat.reduceAdd, zau, zsx, niC, zcm, zgn, zg4, znu]
   refine hK11 _ _ ?_
   refine zaf fun K12 hK12 => ?_
   refine zab hp zad hc rfl fun K13 hK13 => ?_
   rcases or4 (decide ((nth ns i).v < 0)) (decide (999 < (nth ns i).v)) ((nth ns i).lo == (nth ns i).hi) (decide (nth ns i ∈ ns.take i)) with q1 | ⟨q1, q2⟩ | ⟨q1, q2, q3⟩ | ⟨q1, q2, q3, q4⟩ | ⟨q1, q2, q3, q4⟩
   ·have q2 := q1
    have q3 := q1
    have hbad : vB ns i = false := by simp only [decide_eq_true_eq] at q1; unfold vB; rw [decide_eq_false (p := 0 ≤ (nth ns i).v) (by omega)]; rfl
    simp -dsimp -implicitDefEqProofs (disch := first | assumption | omega | (simp [maxLen, zah, za0] <;> omega) | decide) only [q_r, zam, zac, ↓reduceIte, Nat.reduceEqDiff, Nat.reduceAdd, q1, zb4, zci, zcn]
    refine hK13 _ _ ?_
    refine zag rfl (fun ht => ?_) (fun ht => ?_)
    ·refine zab hp zad hc rfl fun K14 hK14 => ?_
     simp -dsimp -implicitDefEqProofs (disch := first | assumption | omega | (simp [maxLen, zah, za0] <;> omega) | decide) only [q_r]
     refine hK14 _ _ ?_
     refine zao ?_
     show zaj _ _ = _
     simp (disch := first | assumption | omega | (simp [maxLen, zah, za0] <;> omega) | decide) only [zaj, zct, za1, Nat.reduceAdd, Nat.zero_add, D.fix, zat, ↓reduceIte, Option.map_some, List.length_cons, List.length_nil, oD]
     rw [zft hlt hbad]
    ·cases ht
   ·have q3 := q1
    have hbad : vB ns i = false := by simp only [decide_eq_true_eq] at q2; unfold vB; rw [decide_eq_false (p := (nth ns i).v ≤ 999) (by omega)]; simp
    simp -dsimp -implicitDefEqProofs (disch := first | assumption | omega | (simp [maxLen, zah, za0] <;> omega) | decide) only [q_r, zam, zac, ↓reduceIte, Nat.reduceEqDiff, Nat.reduceAdd, q1, q2, zb4, zci, zcn]
    refine hK13 _ _ ?_
    refine zag rfl (fun ht => ?_) (fun ht => ?_)
    ·refine zab hp zad hc rfl fun K15 hK15 => ?_
     simp -dsimp -implicitDefEqProofs (disch := first | assumption | omega | (simp [maxLen, zah, za0] <;> omega) | decide) only [q_r]
     refine hK15 _ _ ?_
     refine zao ?_
     show zaj _ _ = _
     simp (disch := first | assumption | omega | (simp [maxLen, zah, za0] <;> omega) | decide) only [zaj, zct, za1, Nat.reduceAdd, Nat.zero_add, D.fix, zat, ↓reduceIte, Option.map_some, List.length_cons, List.length_nil, oD]
     rw [zft hlt hbad]
    ·cases ht
   ·have hbad : vB ns i = false := by
     have q3' : (nth ns i).lo = (nth ns i).hi := by simpa using q3
     unfold vB; simp [q3']
    simp -dsimp -implicitDefEqProofs (disch := first | assumption | omega | (simp [maxLen, zah, za0] <;> omega) | decide) only [q_r, zam, zac, ↓reduceIte, Nat.reduceEqDiff, Nat.reduceAdd, q1, q2, q3, zb4, zci, zcn, zco, zdd]
    refine hK13 _ _ ?_
    refine zag rfl (fun ht => ?_) (fun ht => ?_)
    ·refine zab hp zad hc rfl fun K16 hK16 => ?_
     simp -dsimp -implicitDefEqProofs (disch := first | assumption | omega | (simp [maxLen, zah, za0] <;> omega) | decide) only [q_r]
     refine hK16 _ _ ?_
     refine zao ?_
     show zaj _ _ = _
     simp (disch := first | assumption | omega | (simp [maxLen, zah, za0] <;> omega) | decide) only [zaj, zct, za1, Nat.reduceAdd, Nat.zero_add, D.fix, zat, ↓reduceIte, Option.map_some, List.length_cons, List.length_nil, oD]
     rw [zft hlt hbad]
    ·cases ht
   ·have q4' : nth ns i ∈ ns.take i := by simpa using q4
    rw [if_pos q4'] at hgm
    have hbad : vB ns i = false := by
     unfold vB; simp [q4']
    simp -dsimp -implicitDefEqProofs (disch := first | assumption | omega | (simp [maxLen, zah, za0] <;> omega) | decide) only [q_r, zam, zac, ↓reduceIte, Nat.reduceEqDiff, Nat.reduceAdd, zgf, zhw, zdv, zcy, q1, q2, q3, zue, zhv, jef mtV hk hS.ok, hgm, Option.getD_some, zb4, zgn, zg4, zci, zcn, zco, zdd]
    refine hK13 _ _ ?_
    refine zag rfl (fun ht => ?_) (fun ht => ?_)
    ·refine zab hp zad hc rfl fun K17 hK17 => ?_
     simp -dsimp -implicitDefEqProofs (disch := first | assumption | omega | (simp [maxLen, zah, za0] <;> omega) | decide) only [q_r]
     refine hK17 _ _ ?_
     refine zao ?_
     show zaj _ _ = _
     simp (disch := first | assumption | omega | (simp [maxLen, zah, za0] <;> omega) | decide) only [zaj, zct, za1, Nat.reduceAdd, Nat.zero_add, D.fix, zat, ↓reduceIte, Option.map_some, List.length_cons, List.length_nil, oD]
     rw [zft hlt hbad]
    ·cases ht
   ·have q4' : nth ns i ∉ ns.take i := by simpa using q4
    rw [if_neg q4'] at hgm
    have q1' : 0 ≤ (nth ns i).v := by simpa using q1
    have q2' : (nth ns i).v ≤ 999 := by simpa using q2
    have q3' : (nth ns i).lo ≠ (nth ns i).hi := by simpa using q3
    simp -dsimp -implicitDefEqProofs (disch := first | assumption | omega | (simp [maxLen, zah, za0] <;> omega) | decide) only [q_r, zam, zac, ↓reduceIte, Nat.reduceEqDiff, Nat.reduceAdd, zgf, zhw, zdv, zcy, q1, q2, q3, zue, zhv, jef mtV hk hS.ok, hgm, Option.getD_none, zb4, zgn, zg4, zci, zcn, zco, zdd]
    refine hK13 _ _ ?_
    refine zag rfl (fun ht => ?_) (fun ht => ?_)
    ·cases ht
    ·refine zan (hK12 _ _ ?_)
     refine zaf fun K18 hK18 => ?_
     obtain ⟨kl, hkl⟩ : ∃ kl, kl = [(nth ns i).lo, (nth ns i).hi] := ⟨_, rfl⟩
     have hkll : kl.length = 2 := by rw [hkl]; rfl
     have hok : ∀ q, q < 2 → kB ns i (nth ns i).v (nth kl q) = false → vB ns i = false := fun q hq h => jrx (by
      rw [hkl] at h
      match q, hq with
      | 0, _ => exact .inl h
      | 1, _ => exact .inr h)
     refine zab hp zad hc rfl fun K19 hK19 => ?_
     simp -dsimp -implicitDefEqProofs (disch := first | assumption | omega | (simp [maxLen, zah, za0] <;> omega) | decide) only [q_r, zau, zam, zac, zc1, zar, zb0, ↓reduceIte, List.replicate_zero, List.replicate_succ, Nat.reduceEqDiff, Nat.reduceAdd, zau, zco, zci, zcn, zdd, zc3, zgb]
     refine hK19 _ _ ?_
     refine zaq ?_
     refine za4 hp (fun τ' H' mm => ∃ (q : Nat), (q ≤ 2 ∧ ∀ j, j < q → kB ns i (nth ns i).v (nth kl j) = true) ∧ mm = 2 - q ∧ H' = [.cells (avs (zee ns rs)), mO μ, .cells (niA (nth ns i)), .cells (avs (kl.map iD))] ∧ τ' = frL [(1, .op 0 0), (3, .om 1), (4, .d (iD i)), (5, .op 2 0), (14, .d (.fs (ns.flatMap niC) ns.length)), (15, .d (iD ns.length)), (16, .d (iD i)), (45, .os 1 3 0 2), (46, .d (iD 2)), (47, .d (iD q))]) (2) ?_ ⟨0, ⟨Nat.zero_le _, fun j hj => absurd hj (by omega)⟩, rfl, rfl, rfl⟩ ?_
     ·refine Rt.end (zaa (zaa (zaa (zaa (zaa (zaa (zaa (zaa (zaa (zaa (zae _) rfl) rfl) rfl) rfl) rfl) rfl) rfl) rfl) rfl) rfl) ?_
      simp only [za2, zav, zee, niA]; rw [hkl]; rfl
     rintro τ' H' mm ⟨q, ⟨hq, hvq⟩, rfl, rfl, rfl⟩
     refine zab hp zad hc rfl fun K20 hK20 => ?_
     simp -dsimp -implicitDefEqProofs (disch := first | assumption | omega | (simp [maxLen, zah, za0] <;> omega) | decide) only [q_r, ↓reduceIte, Nat.reduceEqDiff, iD, zee, niA]
     refine hK20 _ _ ?_
     refine zaf fun K21 hK21 => ?_
     refine zag rfl (fun ht => ?_) (fun ht => ?_)
     ·have hq2 : q < 2 := by simp at ht; omega
      refine zan (hK21 _ _ ?_)
      refine zaf fun K22 hK22 => ?_
      refine zaq ?_
      refine zab hp zad hc rfl fun K23 hK23 => ?_
      simp -dsimp -implicitDefEqProofs (disch := first | assumption | omega | (simp [maxLen, zah, za0] <;> omega) | decide) only [q_r, zam, ixO, zai, ↓reduceIte, and_true, Int.toNat_natCast, Nat.reduceEqDiff, iD, Nat.reduceAdd, zc3, zci, zcn]
      refine hK23 _ _ ?_
      refine zbo zad hc mixed rfl (q := 0) (by kernel_rfl) (by kernel_rfl) fun K24 hK24 => ?_
      rcases (show nth kl q < 0 ∨ (0 ≤ nth kl q ∧ (i : Int) + 2 ≤ nth kl q) ∨ (0 ≤ nth kl q ∧ nth kl q < (i : Int) + 2 ∧ nth kl q < 2) ∨ (2 ≤ nth kl q ∧ nth kl q < (i : Int) + 2 ∧ (nth ns (nth kl q - 2).toNat).v ≤ (nth ns i).v) ∨ (2 ≤ nth kl q ∧ nth kl q < (i : Int) + 2 ∧ (nth ns i).v < (nth ns (nth kl q - 2).toNat).v) by omega) with p | ⟨p, p'⟩ | ⟨p, p', p''⟩ | ⟨p, p', p''⟩ | ⟨p, p', p''⟩
      ·have p1 : decide (nth kl q < 0) = true := by simp; omega
       have p2 := p1
       have p3 := p1
       have p4 := p1
       have hkb : kB ns i (nth ns i).v (nth kl q) = false := by unfold kB; rw [decide_eq_false (by omega)]; rfl
       simp -dsimp -implicitDefEqProofs (disch := first | assumption | omega | (simp [maxLen, zah, za0] <;> omega) | decide) only [q_r, ↓reduceIte, List.append_nil, List.replicate_zero, Nat.reduceEqDiff, killAll, Nat.reduceAdd, p1]
       refine hK24 _ _ ?_
       refine zag rfl (fun ht => ?_) (fun ht => ?_)
       ·refine zab hp zad hc rfl fun K25 hK25 => ?_
        simp -dsimp -implicitDefEqProofs (disch := first | assumption | omega | (simp [maxLen, zah, za0] <;> omega) | decide) only [q_r]
        refine hK25 _ _ ?_
        refine zao ?_
        show zaj _ _ = _
        simp (disch := first | assumption | omega | (simp [maxLen, zah, za0] <;> omega) | decide) only [zaj, zct, za1, Nat.reduceAdd, Nat.zero_add, D.fix, zat, ↓reduceIte, Option.map_some, List.length_cons, List.length_nil, oD]
        rw [zft hlt (hok q hq2 hkb)]
       ·cases ht
      ·have p1 : decide (nth kl q < 0) = false := by simp; omega
       have p2 : decide ((i : Int) + 2 ≤ nth kl q) = true := by simp; omega
       have p3 := p1
       have p4 := p1
       have hkb : kB ns i (nth ns i).v (nth kl q) = false := by unfold kB; rw [decide_eq_false (p := nth kl q < i + 2) (by omega)]; simp
       simp -dsimp -implicitDefEqProofs (disch := first | assumption | omega | (simp [maxLen, zah, za0] <;> omega) | decide) only [q_r, ↓reduceIte, List.append_nil, List.replicate_zero, Nat.reduceEqDiff, killAll, Nat.reduceAdd, p1, p2]
       refine hK24 _ _ ?_
       refine zag rfl (fun ht => ?_) (fun ht => ?_)
       ·refine zab hp zad hc rfl fun K26 hK26 => ?_
        simp -dsimp -implicitDefEqProofs (disch := first | assumption | omega | (simp [maxLen, zah, za0] <;> omega) | decide) only [q_r]
        refine hK26 _ _ ?_
        refine zao ?_
        show zaj _ _ = _
        simp (disch := first | assumption | omega | (simp [maxLen, zah, za0] <;> omega) | decide) only [zaj, zct, za1, Nat.reduceAdd, Nat.zero_add, D.fix, zat, ↓reduceIte, Option.map_some, List.length_cons, List.length_nil, oD]
        rw [zft hlt (hok q hq2 hkb)]
       ·cases ht
      ·have p1 : decide (nth kl q < 0) = false := by simp; omega
       have p2 : decide ((i : Int) + 2 ≤ nth kl q) = false := by simp; omega
       have p3 : decide (2 ≤ nth kl q) = false := by simp; omega
       have p4 := p1
       have hkb : kB ns i (nth ns i).v (nth kl q) = true := by unfold kB; simp only [Bool.and_eq_true, Bool.or_eq_true, decide_eq_true_eq]; omega
       simp -dsimp -implicitDefEqProofs (disch := first | assumption | omega | (simp [maxLen, zah, za0] <;> omega) | decide) only [q_r, ↓reduceIte, List.append_nil, List.replicate_zero, Nat.reduceEqDiff, killAll, Nat.reduceAdd, p1, p2, p3]
       refine hK24 _ _ ?_
       refine zag rfl (fun ht => ?_) (fun ht => ?_)
       ·cases ht
       ·refine zan (hK22 _ _ ?_)
        refine zbs hp zad hc rfl fun K27 hK27 => ?_
        simp -dsimp -implicitDefEqProofs (disch := first | assumption | omega | (simp [maxLen, zah, za0] <;> omega) | decide) only [q_r, ↓reduceIte, Nat.reduceEqDiff]
        have hvq2 : ∀ j, j < q + 1 → kB ns i (nth ns i).v (nth kl j) = true := fun j hj => by
         by_cases e : j = q
         ·subst e; exact hkb
         ·exact hvq j (by omega)
        refine hK27 _ _ ⟨_, _, _, ?_, ⟨q + 1, ⟨by omega, hvq2⟩, rfl, rfl, rfl⟩, ?_⟩
        ·first | omega | (simp only [List.length_cons]; omega) | (dsimp only; omega)
        ·refine Rt.end (zaa (zaa (zaa (zaa (zaa (zaa (zaa (zaa (zaa (zaa (zae _) rfl) rfl) rfl) rfl) rfl) rfl) rfl) rfl) rfl) rfl) ?_
         first | rfl | (simp only [zay, zas, zbm, zbr, zbp, gcH, zbb, zc7, zc0, zcq, zi5, zap, zcb, gcV, zei, fzH, zen, zdc, zdf, zbw, Nat.reduceAdd, zga, fzV, zcp, za2, zav, List.map_cons, List.map_nil, List.getD_cons_zero, List.getD_cons_succ, ↓reduceIte, Nat.reduceEqDiff, Option.map_some, List.set_cons_zero, List.set_cons_succ, zbf, zax, Nat.mul_one, List.length_map, List.cons_append, List.nil_append, zih, zou, zn6, zow, zy5, zox, zy6, jku, zgf, ziw, zw8, zhw, zdv, zcy, zcq, zi5, zfk, zpo, jeg, jkv, zi2, zee, niA]; first | done | rfl)
      ·have p1 : decide (nth kl q < 0) = false := by simp; omega
       have p2 : decide ((i : Int) + 2 ≤ nth kl q) = false := by simp; omega
       have p3 : decide (2 ≤ nth kl q) = true := by simp; omega
       have p4 : decide ((nth ns (nth kl q - 2).toNat).v ≤ (nth ns i).v) = true := by simp; omega
       have hkb : kB ns i (nth ns i).v (nth kl q) = false := by unfold kB; rw [decide_eq_false (p := nth kl q < 2) (by omega), decide_eq_false (p := (nth ns i).v < _) (by omega)]; simp
       simp -dsimp -implicitDefEqProofs (disch := first | assumption | omega | (simp [maxLen, zah, za0] <;> omega) | decide) only [q_r, zam, zac, ixO, zai, ↓reduceIte, List.append_nil, List.replicate_zero, Nat.reduceEqDiff, killAll, iD, Nat.reduceAdd, p1, p2, p3, p4, jjs, zci, zcn, zbk, zcj, zck, zcm, zb4]
       refine hK24 _ _ ?_
       refine zag rfl (fun ht => ?_) (fun ht => ?_)
       ·refine zab hp zad hc rfl fun K28 hK28 => ?_
        simp -dsimp -implicitDefEqProofs (disch := first | assumption | omega | (simp [maxLen, zah, za0] <;> omega) | decide) only [q_r]
        refine hK28 _ _ ?_
        refine zao ?_
        show zaj _ _ = _
        simp (disch := first | assumption | omega | (simp [maxLen, zah, za0] <;> omega) | decide) only [zaj, zct, za1, Nat.reduceAdd, Nat.zero_add, D.fix, zat, ↓reduceIte, Option.map_some, List.length_cons, List.length_nil, oD]
        rw [zft hlt (hok q hq2 hkb)]
       ·cases ht
      ·have p1 : decide (nth kl q < 0) = false := by simp; omega
       have p2 : decide ((i : Int) + 2 ≤ nth kl q) = false := by simp; omega
       have p3 : decide (2 ≤ nth kl q) = true := by simp; omega
       have p4 : decide ((nth ns (nth kl q - 2).toNat).v ≤ (nth ns i).v) = false := by simp; omega
       have hkb : kB ns i (nth ns i).v (nth kl q) = true := by unfold kB; simp only [Bool.and_eq_true, Bool.or_eq_true, decide_eq_true_eq]; omega
       simp -dsimp -implicitDefEqProofs (disch := first | assumption | omega | (simp [maxLen, zah, za0] <;> omega) | decide) only [q_r, zam, zac, ixO, zai, ↓reduceIte, List.append_nil, List.replicate_zero, Nat.reduceEqDiff, killAll, iD, Nat.reduceAdd, p1, p2, p3, p4, jjs, zci, zcn, zbk, zcj, zck, zcm, zb4]
       refine hK24 _ _ ?_
       refine zag rfl (fun ht => ?_) (fun ht => ?_)
       ·cases ht
       ·refine zan (hK22 _ _ ?_)
        refine zbs hp zad hc rfl fun K29 hK29 => ?_
        simp -dsimp -implicitDefEqProofs (disch := first | assumption | omega | (simp [maxLen, zah, za0] <;> omega) | decide) only [q_r, ↓reduceIte, Nat.reduceEqDiff]
        have hvq2 : ∀ j, j < q + 1 → kB ns i (nth ns i).v (nth kl j) = true := fun j hj => by
         by_cases e : j = q
         ·subst e; exact hkb
         ·exact hvq j (by omega)
        refine hK29 _ _ ⟨_, _, _, ?_, ⟨q + 1, ⟨by omega, hvq2⟩, rfl, rfl, rfl⟩, ?_⟩
        ·first | omega | (simp only [List.length_cons]; omega) | (dsimp only; omega)
        ·refine Rt.end (zaa (zaa (zaa (zaa (zaa (zaa (zaa (zaa (zaa (zaa (zae _) rfl) rfl) rfl) rfl) rfl) rfl) rfl) rfl) rfl) rfl) ?_
         first | rfl | (simp only [zay, zas, zbm, zbr, zbp, gcH, zbb, zc7, zc0, zcq, zi5, zap, zcb, gcV, zei, fzH, zen, zdc, zdf, zbw, Nat.reduceAdd, zga, fzV, zcp, za2, zav, List.map_cons, List.map_nil, List.getD_cons_zero, List.getD_cons_succ, ↓reduceIte, Nat.reduceEqDiff, Option.map_some, List.set_cons_zero, List.set_cons_succ, zbf, zax, Nat.mul_one, List.length_map, List.cons_append, List.nil_append, zih, zou, zn6, zow, zy5, zox, zy6, jku, zgf, ziw, zw8, zhw, zdv, zcy, zcq, zi5, zfk, zpo, jeg, jkv, zi2, zee, niA]; first | done | rfl)
     ·have hq2 : q = 2 := by simp at ht; omega
      subst hq2
      have hvi : vB ns i = true := by
       have a0 := hvq 0 (by omega)
       have a1 := hvq 1 (by omega)
       rw [hkl] at a0 a1
       unfold vB
       rw [decide_eq_true q1', decide_eq_true q2', decide_eq_true q3', decide_eq_true q4']
       simp only [Bool.true_and]
       exact Bool.and_eq_true_iff.2 ⟨a0, a1⟩
      refine zbd (hK18 _ _ ?_)
      refine zbs hp zad hc rfl fun K30 hK30 => ?_
      simp -dsimp -implicitDefEqProofs (disch := first | assumption | omega | (simp [maxLen, zah, za0] <;> omega) | decide) only [q_r, zam, ↓reduceIte, Nat.reduceEqDiff, Nat.reduceAdd, zih, zn6, zhw, zdv, zcy, zue, jbu mtV hk hS.ok, zgn, zg4]
      refine hK30 _ _ (hK10 _ _ ?_)
      refine zbs hp zad hc rfl fun K31 hK31 => ?_
      simp -dsimp -implicitDefEqProofs (disch := first | assumption | omega | (simp [maxLen, zah, za0] <;> omega) | decide) only [q_r, ↓reduceIte, Nat.reduceEqDiff]
      have hv2 : ∀ j, j < i + 1 → vB ns j = true := fun j hj => by
       by_cases e : j = i
       ·subst e; exact hvi
       ·exact hv j (by omega)
      refine hK31 _ _ ⟨_, _, _, ?_, ⟨i + 1, zpm (niV (nth ns i)) (.bool true) μ, ⟨by omega, by rw [zel hlt]; exact hS.add hn, hv2⟩, rfl, rfl, rfl⟩, ?_⟩
      ·first | omega | (simp only [List.length_cons]; omega) | (dsimp only; omega)
      ·refine Rt.trans (Rt.gc (keep := [0,1]) (by decide) (by decide) (by simp [])) ?_
       refine Rt.end (zaa (zaa (zaa (zaa (zaa (zae _) rfl) rfl) rfl) rfl) rfl) ?_
       first | rfl | (simp only [gcH, zbb, zcq, zcb, gcV, za2, zav, List.map_cons, List.map_nil, List.getD_cons_zero, List.getD_cons_succ, zcq, zee]; first | done | rfl)
  ·have hie : i = ns.length := by simp at ht; omega
   subst hie
   have hva := jfj (rs := rs) hsm hv
   refine zbd (hK6 _ _ ?_)
   refine zab hp zad hc rfl fun K32 hK32 => ?_
   simp -dsimp -implicitDefEqProofs (disch := first | assumption | omega | (simp [maxLen, zah, za0] <;> omega) | decide) only [q_r, zam, zac, ↓reduceIte, Nat.reduceEqDiff, Nat.reduceAdd, zes, zea, zeb]
   refine zl4 (jcd ns rs rs hsm hrl) ?_ ?_
   ·simp (disch := first | assumption | omega | (simp [maxLen, zah, za0] <;> omega) | decide) only [za1, za9, za7, zbt, zbl, zfj, zkv, Nat.reduceAdd, D.fix, Option.map_some, Option.bind_some, List.getElem?_cons_zero, zay, zee, jm4]
   simp -dsimp -implicitDefEqProofs (disch := first | assumption | omega | (simp [maxLen, zah, za0] <;> omega) | decide) only [q_r, ↓reduceIte]
   refine hK32 _ _ ?_
   refine zao ?_
   show zaj _ _ = _
   simp (disch := first | assumption | omega | (simp [maxLen, zah, za0] <;> omega) | decide) only [zaj, zct, za1, Nat.reduceAdd, Nat.zero_add, D.fix, zat, ↓reduceIte, Option.map_some, List.length_cons, List.length_nil, oD]
   rw [hva, zoz]
end Go.Proofs.Ytgfnpfchdlcoeaa
