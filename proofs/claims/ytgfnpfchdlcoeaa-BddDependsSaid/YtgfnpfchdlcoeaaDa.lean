/- Lists of numbers; nets: how they lie in memory; the small functions of the simulation. -/
import Derived.Test.YtgfnpfchdlcoeaaQ
import Derived.Test.YtgfnpfchdlcoeaaTy
import Derived.Test.YtgfnpfchdlcoeaaBa
set_option linter.unusedVariables false
set_option linter.unusedSimpArgs false
namespace Go.Proofs.Ytgfnpfchdlcoeaa
open Go Go.RowKit
set_option maxRecDepth 100000 in
set_option linter.unusedVariables false in
set_option maxHeartbeats 4000000 in
theorem ints_c (a b : List Int) (ha : a.length ≤ maxLen) : zce Try.prog 24 [zbj a, zbj b] (.d (oD (decide (a = b)))) := by
  refine zb7 (fn := Try.f24) (by kernel_rfl) Try.func24 rfl (Nat.le_of_ble_eq_true rfl) fun c hc hp => ?_
  refine zch (τ' := frL [(0, .d (zbj a)), (1, .d (zbj b))]) (zaa (zaa (zaq _) rfl) rfl) ?_
  unfold maxLen at ha
  refine zac hp zao hc rfl fun K1 hK1 => ?_
  simp -dsimp -implicitDefEqProofs (disch := first | assumption | omega | (simp [maxLen, zab] <;> omega) | decide) only [zag, zaj, q_f, zbj]
  refine hK1 _ _ ?_
  refine zas fun K2 hK2 => ?_
  refine zac hp zao hc rfl fun K3 hK3 => ?_
  simp -dsimp -implicitDefEqProofs (disch := first | assumption | omega | (simp [maxLen, zab] <;> omega) | decide) only [zal, za1, zb8, zaj, zae, q_o, zay, lenF, zbe, zff, ↓reduceIte, q_b, q_f, q_s, Nat.reduceEqDiff, zea]
  refine hK3 _ _ ?_
  refine zau rfl (fun ht => ?_) (fun ht => ?_)
  · have hne : a ≠ b := fun e => by subst e; simp at ht
    refine zac hp zao hc rfl fun K4 hK4 => ?_
    simp -dsimp -implicitDefEqProofs (disch := first | assumption | omega | (simp [maxLen, zab] <;> omega) | decide) only [zag, zaj, q_f]
    refine hK4 _ _ ?_
    refine zbc ?_
    show za7 _ _ = _
    simp (disch := first | assumption | omega | (simp [maxLen, zab] <;> omega) | decide) only [za7, retV, zbr, D.fix, zbi, ↓reduceIte, Option.map_some, List.length_nil, oD]
    simp [hne]
  · have hl : a.length = b.length := by simp at ht; omega
    refine zbb (hK2 _ _ ?_)
    refine zas fun K5 hK5 => ?_
    refine zac hp zao hc rfl fun K6 hK6 => ?_
    simp -dsimp -implicitDefEqProofs (disch := first | assumption | omega | (simp [maxLen, zab] <;> omega) | decide) only [zag, zaj, q_f]
    refine hK6 _ _ ?_
    refine zbg ?_
    refine zby hp (fun τ' H' mm => ∃ k, (k ≤ a.length ∧ a.take k = b.take k) ∧ mm = a.length - k ∧ H' = [] ∧ τ' = frL [(5, .d (iD k)), (0, .d (zbj a)), (1, .d (zbj b))]) (a.length) ?_ ⟨0, ⟨Nat.zero_le _, rfl⟩, rfl, rfl, rfl⟩ ?_
    · refine Rt.end (zaa (zaa (zaa (zaq _) rfl) rfl) rfl) ?_
      first | rfl | (simp only [zbj, za9, zbp, zbt, zbm, gcH, zb1, zcb, zcc, gc_m, fz_m, zaz, gcVs, gcV, zcy, fzH, zc0, zb9, zcd, zbl, Nat.reduceAdd, fzVs, fzV, posN, zav, zap, List.map_cons, List.map_nil, List.getD_cons_zero, List.getD_cons_succ, ↓reduceIte, Nat.reduceEqDiff, Option.map_some, List.set_cons_zero, List.set_cons_succ, zba, zak, Nat.mul_one, List.length_map, List.cons_append, List.nil_append]; first | done | rfl)
    rintro τ' H' mm ⟨k, ⟨hk, htake⟩, rfl, rfl, rfl⟩
    refine zas fun K7 hK7 => ?_
    refine zac hp zao hc rfl fun K8 hK8 => ?_
    simp -dsimp -implicitDefEqProofs (disch := first | assumption | omega | (simp [maxLen, zab] <;> omega) | decide) only [zal, za1, zb8, zaj, zae, q_o, zay, lenF, zbe, zcz, ↓reduceIte, q_b, q_f, q_s, Nat.reduceEqDiff, iD, zbj, zea]
    refine hK8 _ _ ?_
    refine zau rfl (fun ht => ?_) (fun ht => ?_)
    · have hlt : k < a.length := by simp at ht; omega
      have hlt2 : k < b.length := by omega
      refine zbb (hK7 _ _ ?_)
      refine zas fun K9 hK9 => ?_
      refine zbg ?_
      refine zcs zao hc mixed rfl (q := 0) (by kernel_rfl) (by kernel_rfl) fun K10 hK10 => ?_
      simp -dsimp -implicitDefEqProofs (disch := first | assumption | omega | (simp [maxLen, zab] <;> omega) | decide) only [zco, zcq, ze2, zdt, zc4, zae, q_o, za8, ixO, za2, zay, zff, ↓reduceIte, q_b, ifp, q_f, q_l, List.append_nil, List.replicate_zero, Int.toNat_natCast, q_n, Nat.reduceEqDiff, killAll, zcg, iD, Nat.reduceAdd, zea, sz_3, ag_3]
      refine hK10 _ _ ?_
      refine zau rfl (fun ht => ?_) (fun ht => ?_)
      · have hne : a ≠ b := fun e => by subst e; simp at ht
        refine zac hp zao hc rfl fun K11 hK11 => ?_
        simp -dsimp -implicitDefEqProofs (disch := first | assumption | omega | (simp [maxLen, zab] <;> omega) | decide) only [zag, zaj, q_f]
        refine hK11 _ _ ?_
        refine zbc ?_
        show za7 _ _ = _
        simp (disch := first | assumption | omega | (simp [maxLen, zab] <;> omega) | decide) only [za7, retV, zbr, D.fix, zbi, ↓reduceIte, Option.map_some, List.length_nil, oD]
        simp [hne]
      · refine zbb (hK9 _ _ ?_)
        refine zcw hp zao hc rfl fun K12 hK12 => ?_
        simp -dsimp -implicitDefEqProofs (disch := first | assumption | omega | (simp [maxLen, zab] <;> omega) | decide) only [zal, zag, za1, zaj, zae, q_o, zay, zcu, ↓reduceIte, q_b, q_f, Nat.reduceEqDiff]
        refine hK12 _ _ ⟨_, _, _, ?_, ⟨k + 1, ⟨by omega, zib hlt hlt2 htake (by simpa using ht)⟩, rfl, rfl, rfl⟩, ?_⟩
        · first | omega | (simp only [List.length_cons]; omega) | (dsimp only; omega)
        · refine Rt.end (zaa (zaa (zaa (zaq _) rfl) rfl) rfl) ?_
          first | rfl | (simp only [zbj, za9, zbp, zbt, zbm, gcH, zb1, zcb, zcc, gc_m, fz_m, zaz, gcVs, gcV, zcy, fzH, zc0, zb9, zcd, zbl, Nat.reduceAdd, fzVs, fzV, posN, zav, zap, List.map_cons, List.map_nil, List.getD_cons_zero, List.getD_cons_succ, ↓reduceIte, Nat.reduceEqDiff, Option.map_some, List.set_cons_zero, List.set_cons_succ, zba, zak, Nat.mul_one, List.length_map, List.cons_append, List.nil_append]; first | done | rfl)
    · have hge : k = a.length := by simp at ht; omega
      have he : a = b := by rw [hge, List.take_length, hl, List.take_length] at htake; exact htake
      refine zcl (hK5 _ _ ?_)
      refine zac hp zao hc rfl fun K13 hK13 => ?_
      simp -dsimp -implicitDefEqProofs (disch := first | assumption | omega | (simp [maxLen, zab] <;> omega) | decide) only [zag, zaj, q_f]
      refine hK13 _ _ ?_
      refine zbc ?_
      show za7 _ _ = _
      simp (disch := first | assumption | omega | (simp [maxLen, zab] <;> omega) | decide) only [za7, retV, zbr, D.fix, zbi, ↓reduceIte, Option.map_some, List.length_nil, oD]
      simp [he]
structure Wire where
  kind : Int
  i : Int
  bit : Int
instance : Inhabited Wire := ⟨⟨0, 0, 0⟩⟩
structure Gate where
  op : Int
  a : Int
  b : Int
  c : Int
  n : Int
instance : Inhabited Gate := ⟨⟨0, 0, 0, 0, 0⟩⟩
structure Net where
  ins : List Wire
  gates : List Gate
  out : List Wire
  drive : List Int
def zg9 (w : Wire) : List D := [iD w.kind, iD w.i, iD w.bit]
def zf3 (g : Gate) : List D := [iD g.op, iD g.a, iD g.b, iD g.c, iD g.n]
def zbw (l : List Wire) : D := .fs (l.flatMap zg9) l.length
def zbx (l : List Gate) : D := .fs (l.flatMap zf3) l.length
def netC (n : Net) : List D := [zbw n.ins, zbx n.gates, zbw n.out, zbj n.drive]
def netD (n : Net) : D := .agg (netC n)
theorem zkf (g : Gate) : (zf3 g).length = 5 := rfl
theorem zk6 (w : Wire) : (zg9 w).length = 3 := rfl
section
variable {l : List Gate} {k : Nat}
theorem gate_row (h : k < l.length) : zd0 (l.flatMap zf3) (k * 5) 5 = some (zf3 (nth l k)) := zja zkf h
theorem zaf : (l.flatMap zf3).length = l.length * 5 := zgl zkf l
theorem gate_fix (l : List Gate) : (l.flatMap zf3).map D.fix = l.flatMap zf3 := zog (fun _ => rfl) l
theorem wire_fix (l : List Wire) : (l.flatMap zg9).map D.fix = l.flatMap zg9 := zog (fun _ => rfl) l
end
section
variable {l : List Wire} {k : Nat}
theorem zad : (l.flatMap zg9).length = l.length * 3 := zgl zk6 l
end
/-- Whether a bit of a number is 1. -/
def hasB (v b : Int) : Bool := bitV .and .i64 (v.fdiv (2 ^ min b.toNat 64)) 1 == 1
set_option maxRecDepth 100000 in
set_option linter.unusedVariables false in
set_option maxHeartbeats 4000000 in
theorem has_c (v b : Int) (hb : 0 ≤ b) : zce Try.prog 77 [iD v, iD b] (.d (oD (hasB v b))) := by
  refine zb7 (fn := Try.f77) (by kernel_rfl) Try.func77 rfl (Nat.le_of_ble_eq_true rfl) fun c hc hp => ?_
  refine zch (τ' := frL [(0, .d (iD v)), (1, .d (iD b))]) (zaa (zaa (zaq _) rfl) rfl) ?_
  refine zac hp zao hc rfl fun K1 hK1 => ?_
  simp -dsimp -implicitDefEqProofs (disch := first | assumption | omega | (simp [maxLen, zab] <;> omega) | decide) only [zag, zaj, q_f, iD]
  refine hK1 _ _ ?_
  refine zac hp zao hc rfl fun K2 hK2 => ?_
  simp -dsimp -implicitDefEqProofs (disch := first | assumption | omega | (simp [maxLen, zab] <;> omega) | decide) only [zal, zag, za1, zaj, zae, q_o, zay, zd9, v_shr, zuo, ↓reduceIte, q_b, q_f, Nat.reduceEqDiff]
  refine hK2 _ _ ?_
  refine zbc ?_
  show za7 _ _ = _
  simp (disch := first | assumption | omega | (simp [maxLen, zab] <;> omega) | decide) only [za7, retV, zbr, D.fix, zbi, ↓reduceIte, Option.map_some, List.length_nil, oD, hasB]
def num3 (a b c : Bool) : Int := (if a then 1 else 0) + (if b then 2 else 0) + (if c then 4 else 0)
theorem num3_r (a b c : Bool) : 0 ≤ num3 a b c ∧ num3 a b c ≤ 7 := by cases a <;> cases b <;> cases c <;> decide
theorem number_c (a b c : Bool) : zce Try.prog 54 [.fs [oD a, oD b, oD c] 3] (.d (iD (num3 a b c))) := by
  cases a <;> cases b <;> cases c <;> exact zdv (n := 60) mixed zao (by kernel_rfl)
/-- A bit of the word at an address. -/
def zu6 (mems : List (List Int)) (n x : Int) : Bool := decide (n / 8 < mems.length) && (decide (x < (nth mems (n / 8).toNat).length) && hasB (nth (nth mems (n / 8).toNat) x.toNat) (n % 8))
set_option maxRecDepth 100000 in
set_option linter.unusedVariables false in
set_option maxHeartbeats 4000000 in
theorem read_c (mems : List (List Int)) (n x : Int) (hn : 0 ≤ n) (hn2 : n < 1000000) (hx : 0 ≤ x) : zce Try.prog 53 [zbt mems, iD n, iD x] (.d (oD (zu6 mems n x))) := by
  refine zb7 (fn := Try.f53) (by kernel_rfl) Try.func53 rfl (Nat.le_of_ble_eq_true rfl) fun c hc hp => ?_
  refine zch (τ' := frL [(0, .d (zbt mems)), (1, .d (iD n)), (2, .d (iD x))]) (zaa (zaa (zaa (zaq _) rfl) rfl) rfl) ?_
  refine zac hp zao hc rfl fun K1 hK1 => ?_
  simp -dsimp -implicitDefEqProofs (disch := first | assumption | omega | (simp [maxLen, zab] <;> omega) | decide) only [zag, zaj, q_f, iD, zbt]
  refine hK1 _ _ ?_
  refine zac hp zao hc rfl fun K2 hK2 => ?_
  by_cases h1 : n / 8 < mems.length
  by_cases h2 : x < (nth mems (n / 8).toNat).length
  · simp -dsimp -implicitDefEqProofs (disch := first | assumption | omega | (simp [maxLen, zab] <;> omega) | decide) only [zal, zbq, zat, zdo, za1, zb8, zbh, sT_g, zae, gK_t, q_o, za8, ixO, za2, zay, lenF, zbe, zp4, zix, zcz, ↓reduceIte, q_b, ifp, zar, zck, q_f, q_s, q_l, q_n, Nat.reduceEqDiff, zcg, iD, zbj, h1, h2, decide_true, sz_3, ag_3, eo_72, zfg, zfh, zea]
    refine zda (has_c _ _ (by omega)) rfl ?_
    simp -dsimp -implicitDefEqProofs (disch := first | assumption | omega | (simp [maxLen, zab] <;> omega) | decide) only [zag, zbq, zaj, zae, ↓reduceIte, q_b, q_f, Nat.reduceEqDiff, oD]
    refine hK2 _ _ ?_
    refine zbc ?_
    show za7 _ _ = _
    simp (disch := first | assumption | omega | (simp [maxLen, zab] <;> omega) | decide) only [za7, retV, zbr, D.fix, zbi, ↓reduceIte, Option.map_some, List.length_nil, oD]
    simp [zu6, h1, h2]
  · simp -dsimp -implicitDefEqProofs (disch := first | assumption | omega | (simp [maxLen, zab] <;> omega) | decide) only [zal, zag, zbq, zat, zdo, za1, zb8, zaj, sT_g, zae, gK_t, gK_f, q_o, za8, ixO, za2, zay, lenF, zbe, zp4, zcz, ↓reduceIte, q_b, ifp, zar, zck, q_f, q_s, q_l, q_n, Nat.reduceEqDiff, zcg, zbj, h1, h2, decide_true, decide_false, eo_72, zfg, zfh, zea]
    refine hK2 _ _ ?_
    refine zbc ?_
    show za7 _ _ = _
    simp (disch := first | assumption | omega | (simp [maxLen, zab] <;> omega) | decide) only [za7, retV, zbr, D.fix, zbi, ↓reduceIte, Option.map_some, List.length_nil, oD]
    simp [zu6, h1, h2]
  · have h2 := h1
    simp -dsimp -implicitDefEqProofs (disch := first | assumption | omega | (simp [maxLen, zab] <;> omega) | decide) only [zal, zag, zbq, za1, zb8, zaj, sT_g, zae, gK_f, q_o, zay, lenF, zbe, zp4, zcz, ↓reduceIte, q_b, zar, zck, q_f, q_s, q_l, Nat.reduceEqDiff, h1, decide_false, eo_72]
    refine hK2 _ _ ?_
    refine zbc ?_
    show za7 _ _ = _
    simp (disch := first | assumption | omega | (simp [maxLen, zab] <;> omega) | decide) only [za7, retV, zbr, D.fix, zbi, ↓reduceIte, Option.map_some, List.length_nil, oD]
    simp [zu6, h1]
def opsC : List D := [iD 1, .val (.func (.func 71) #[] #[]), iD 2, .val (.func (.func 72) #[] #[]), iD 3, .val (.func (.func 73) #[] #[]), iD 4, .val (.func (.func 74) #[] #[]), iD 5, .val (.func (.func 75) #[] #[]), iD 6, .val (.func (.func 76) #[] #[])]
theorem zu7 : zce Try.prog 52 [] (.d (.agg opsC)) := zdv (n := 60) mixed zao (by kernel_rfl)
theorem op_1 (x y z : Bool) : zce Try.prog 71 [oD x, oD y, oD z] (.d (oD (!x))) := by cases x <;> cases y <;> cases z <;> exact zdv (n := 60) mixed zao (by kernel_rfl)
theorem op_2 (x y z : Bool) : zce Try.prog 72 [oD x, oD y, oD z] (.d (oD (x && y))) := by cases x <;> cases y <;> cases z <;> exact zdv (n := 60) mixed zao (by kernel_rfl)
theorem op_3 (x y z : Bool) : zce Try.prog 73 [oD x, oD y, oD z] (.d (oD (x || y))) := by cases x <;> cases y <;> cases z <;> exact zdv (n := 60) mixed zao (by kernel_rfl)
theorem op_4 (x y z : Bool) : zce Try.prog 74 [oD x, oD y, oD z] (.d (oD (x != y))) := by cases x <;> cases y <;> cases z <;> exact zdv (n := 60) mixed zao (by kernel_rfl)
theorem op_5 (x y z : Bool) : zce Try.prog 75 [oD x, oD y, oD z] (.d (oD (if x then y else z))) := by cases x <;> cases y <;> cases z <;> exact zdv (n := 60) mixed zao (by kernel_rfl)
theorem op_6 (x y z : Bool) : zce Try.prog 76 [oD x, oD y, oD z] (.d (oD (x && (y || z) || y && z))) := by cases x <;> cases y <;> cases z <;> exact zdv (n := 60) mixed zao (by kernel_rfl)
def znt (op a b c n : Int) : List D := [.fs opsC 6, .clo (.func 56) [] [.fp [iD op, iD a, iD b, iD c, iD n] 0]]
theorem find_1 (a b c n : Int) : zce Try.prog 55 (znt 1 a b c n) (.d (iD 0)) := zdv (n := 60) mixed zao (by kernel_rfl)
theorem find_2 (a b c n : Int) : zce Try.prog 55 (znt 2 a b c n) (.d (iD 1)) := zdv (n := 60) mixed zao (by kernel_rfl)
theorem find_3 (a b c n : Int) : zce Try.prog 55 (znt 3 a b c n) (.d (iD 2)) := zdv (n := 60) mixed zao (by kernel_rfl)
theorem find_4 (a b c n : Int) : zce Try.prog 55 (znt 4 a b c n) (.d (iD 3)) := zdv (n := 60) mixed zao (by kernel_rfl)
theorem find_5 (a b c n : Int) : zce Try.prog 55 (znt 5 a b c n) (.d (iD 4)) := zdv (n := 60) mixed zao (by kernel_rfl)
theorem find_6 (a b c n : Int) : zce Try.prog 55 (znt 6 a b c n) (.d (iD 5)) := zdv (n := 60) mixed zao (by kernel_rfl)
end Go.Proofs.Ytgfnpfchdlcoeaa
