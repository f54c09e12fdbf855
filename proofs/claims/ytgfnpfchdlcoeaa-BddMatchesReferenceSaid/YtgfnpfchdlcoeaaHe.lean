/- The reference's search. -/
import Derived.Test.YtgfnpfchdlcoeaaQr
import Derived.Test.YtgfnpfchdlcoeaaQ
import Derived.Test.YtgfnpfchdlcoeaaHb
import Derived.Test.YtgfnpfchdlcoeaaCu
set_option linter.unusedVariables false
set_option linter.unusedSimpArgs false
set_option maxRecDepth 100000
set_option maxHeartbeats 4000000
namespace Go.Proofs.Ytgfnpfchdlcoeaa
open Go Go.RowKit
def zh5 (V : Nat) (acc : List T) : List (List Bool) := acc.map fun t => tbF V t.v t
theorem zh6 (V : Nat) (acc : List T) : (zh5 V acc).length = acc.length := by simp [zh5]
def zi7 (V : Nat) (acc : List T) : zal := [.cells (avs ((zdl acc).flatMap ndC)), .cells (avs ((zh5 V acc).map zas)), .free, .free, .free]
def VsK (V : Nat) (acc : List T) (s : T) (x : AV) (S' : zal) : Prop := ∃ acc', acc' = zeu s acc ∧ x = .agg [.os 3 2 0 acc'.length, .os 1 3 0 acc'.length, .d (iD (num acc' s : Nat))] ∧
 ∃ j, S' = [.dead, .dead, .cells (avs ((zdl acc').flatMap ndC)), .cells (avs ((zh5 V acc').map zas)), .cells j]
def VsC (V : Nat) (s : T) : Prop := ∀ (k : Nat) (ki : Int) (acc : List T), ki = k → s.Ok V k → k ≤ V → RowOk V acc → acc.length + s.sz ≤ 4000000 →
 ScS Try.prog [0, 1] 43 [.agg [.os 3 0 0 acc.length, .os 1 1 0 acc.length], .d (zas (tbF V k s)), .d (iD ki)] (zi7 V acc) (VsK V acc s)
theorem VsC.up {V : Nat} {s : T} (h : VsC V s) (k : Nat) (ki : Int) (acc : List T) (h1 : ki = k) (h2 : s.Ok V k) (h3 : k ≤ V) (h4 : RowOk V acc) (h5 : acc.length + s.sz ≤ 4000000) :
  ScS Try.prog [0, 1, 2, 3] 43 [.agg [.os 3 2 0 acc.length, .os 1 3 0 acc.length], .d (zas (tbF V k s)), .d (iD ki)] (.dead :: .dead :: zi7 V acc)
   fun x S' => ∃ acc', acc' = zeu s acc ∧ x = .agg [.os 3 4 0 acc'.length, .os 1 5 0 acc'.length, .d (iD (num acc' s : Nat))] ∧ ∃ j, S' = [.dead, .dead, .dead, .dead, .cells (avs ((zdl acc').flatMap ndC)), .cells (avs ((zh5 V acc').map zas)), .cells j] := by
 have hu := (h k ki acc h1 h2 h3 h4 h5).up rfl (fun x S' hK => by obtain ⟨_, _, _, j, rfl⟩ := hK; rfl) (fun x hx => by
  simp only [List.mem_cons, List.not_mem_nil, or_false] at hx
  rcases hx with rfl | rfl | rfl <;> simp [gcV, zcb, up2, zcp]) (by simp [zi7, gcO, zap])
 have e1 : [AV.agg [.os 3 0 0 acc.length, .os 1 1 0 acc.length], .d (zas (tbF V k s)), .d (iD ki)].map (gcV up2) = [.agg [.os 3 2 0 acc.length, .os 1 3 0 acc.length], .d (zas (tbF V k s)), .d (iD ki)] := by simp [gcV, zcb, up2, zcp]
 have e2 : (zi7 V acc).map (gcO up2) = zi7 V acc := by simp [zi7, gcO, zap]
 rw [e1, e2] at hu
 refine hu.mono fun x S' ⟨x0, S0, ⟨acc', k1, k2, j, k3⟩, k4, k5⟩ => ?_
 subst k2 k3
 exact ⟨acc', k1, by rw [k4]; simp [gcV, zcb, up2, zcp], zcb up2 j, by rw [k5]; simp [gcO, zap]⟩
theorem jsv (s : T) : s = .leaf false ∨ s = .leaf true ∨ s.lf = false := by
 cases s with
 | leaf b => cases b <;> simp
 | node v l h => exact .inr (.inr rfl)
def pw (V j : Nat) : Nat := 2 ^ (V - j)
theorem zx1 {V k : Nat} (h : k < V) : pw V k = pw V (k + 1) + pw V (k + 1) := zo0 h
theorem jp5 (V k : Nat) : 0 < pw V k := Nat.two_pow_pos _
theorem zml (V k : Nat) (s : T) : (tbF V k s).length = pw V k := zqj V k s
theorem jp6 {acc : List T} {i : Nat} (h : i < acc.length) : (nth (zdl acc) i).v = (nth acc i).v := by unfold zdl; rw [zjj h]; rfl
theorem jip {V : Nat} {acc : List T} {i : Nat} (h : i < acc.length) : nth (zh5 V acc) i = tbF V (nth acc i).v (nth acc i) := zjj h
theorem zx2 {l : List Bool} {n : Nat} (h : n ≤ l.length) : D.fs (List.take n (l.map oD)) n = zas (l.take n) := by
 unfold zas
 rw [List.map_take, List.length_take, Nat.min_eq_left h]
theorem jf2 {l : List Bool} {n : Nat} (h : n ≤ l.length) : D.fs (List.take (((l.length : Nat) : Int) - (n : Int)).toNat (List.drop n (l.map oD))) (((l.length : Nat) : Int) - (n : Int)).toNat = zas (l.drop n) := by
 have e : (((l.length : Nat) : Int) - (n : Int)).toNat = l.length - n := by omega
 unfold zas
 rw [e, List.map_drop, List.length_drop, List.take_of_length_le (by simp)]
theorem Rt.free3 {m : List Nat} {τ : Fr} {H : zal} : Rt m τ H τ (H ++ [.free, .free, .free]) := Rt.free 3
theorem zc4 : (type_of% @zah) ∧ (type_of% @zbq) ∧ (type_of% @zbc) ∧ (type_of% @zml) ∧ (type_of% @zh6) := ⟨@zah, @zbq, @zbc, @zml, @zh6⟩
theorem jmi (V : Nat) (hV : V ≤ 19) (s : T) (ih : ∀ u : T, u.sz < s.sz → VsC V u) (k : Nat) (ki : Int) (acc : List T) (hki : ki = k) (hs : s.Ok V k) (hkV : k ≤ V) (hr : RowOk V acc) (hlen : acc.length + s.sz ≤ 4000000) : ScS Try.prog [0, 1] 43 [.agg [.os 3 0 0 acc.length, .os 1 1 0 acc.length], .d (zas (tbF V k s)), .d (iD ki)] (zi7 V acc) (VsK V acc s) := by
 refine zlj (fn := Try.f43) (by kernel_rfl) Try.func43 rfl (Nat.le_of_ble_eq_true rfl) fun c hc hp => ?_
 refine jkn ?_
 unfold zi7
 subst hki
 have hpw : ∀ j, pw V j ≤ 524288 := fun j => Nat.le_trans (Nat.pow_le_pow_right (by decide) (show V - j ≤ 19 by omega)) (show 2 ^ 19 ≤ 524288 by decide)
 have hpk := hpw k
 have hpk0 := jp5 V k
 have hcc := jck (tbF V k s) (by rw [zml]; omega) (by rw [zml]; omega)
 refine zab hp zad hc rfl fun K1 hK1 => ?_
 simp -dsimp -implicitDefEqProofs (disch := first | assumption | omega | (simp [maxLen, zc4] <;> omega) | decide) only [q_r, zau, zb0, ↓reduceIte, AV.one, iD, zas, Nat.reduceAdd, zau, jhp]
 refine hK1 _ _ ?_
 refine zab hp zad hc rfl fun K2 hK2 => ?_
 rcases jsv s with rfl | rfl | q
 ·rw [zs0, if_neg (by decide)] at hcc
  simp -dsimp -implicitDefEqProofs (disch := first | assumption | omega | (simp [maxLen, zc4] <;> omega) | decide) only [q_r, ↓reduceIte, Nat.reduceEqDiff, Nat.reduceAdd]
  refine zb9 (hcc) rfl ?_
  simp -dsimp -implicitDefEqProofs (disch := first | assumption | omega | (simp [maxLen, zc4] <;> omega) | decide) only [q_r, ↓reduceIte, iD]
  refine hK2 _ _ ?_
  refine zaf fun K3 hK3 => ?_
  refine zab hp zad hc rfl fun K4 hK4 => ?_
  simp -dsimp -implicitDefEqProofs (disch := first | assumption | omega | (simp [maxLen, zc4] <;> omega) | decide) only [q_r, ↓reduceIte, Int.reduceLE, decide_true]
  refine hK4 _ _ ?_
  refine zag rfl (fun ht => ?_) (fun ht => ?_)
  ·refine zab hp zad hc rfl fun K5 hK5 => ?_
   simp -dsimp -implicitDefEqProofs (disch := first | assumption | omega | (simp [maxLen, zc4] <;> omega) | decide) only [q_r, zam, zb7, za6, ↓reduceIte, AV.one, D.one, Value.oneCell', Nat.reduceEqDiff, Nat.reduceAdd, znw, zq1, jhq, zt0, zt1, zpy, jho]
   refine hK5 _ _ ?_
   refine zbx hp (τ' := frL [(6, .op 4 0)]) (H' := [.dead, .dead, .cells (avs ((zdl acc).flatMap ndC)), .cells (avs ((zh5 V acc).map zas)), .cells [.os 3 2 0 acc.length, .os 1 3 0 acc.length, .d (iD 0)]]) ?_ ?_
   ·refine Rt.trans (Rt.view (keep := [1000, 1001, 0, 1, 6]) (by decide) (by intro i hi; simp at hi; rcases hi with rfl | rfl <;> simp)) ?_
    refine Rt.end (zaa (zae _) rfl) ?_
    first | rfl | (simp only [gcH, zbb, zap, zcb, gcV, Nat.reduceAdd, zcp, List.map_cons, List.map_nil, List.getD_cons_zero, List.getD_cons_succ, ↓reduceIte, Nat.reduceEqDiff, Option.map_some]; first | done | rfl)
   refine zao ?_
   try dsimp only [zfd, zcc]
   refine zch rfl ?_
   simp -dsimp -implicitDefEqProofs (disch := first | assumption | omega | (simp [maxLen, zc4] <;> omega) | decide) only [q_r, zam, ↓reduceIte, iD, Nat.reduceAdd, zpy, jhn]
   show ∃ _, _
   exact ⟨acc, rfl, by rw [zk0]; rfl, _, rfl⟩
  ·cases ht
 ·rw [zs0, if_pos rfl] at hcc
  simp -dsimp -implicitDefEqProofs (disch := first | assumption | omega | (simp [maxLen, zc4] <;> omega) | decide) only [q_r, ↓reduceIte, Nat.reduceEqDiff, Nat.reduceAdd]
  refine zb9 (hcc) rfl ?_
  simp -dsimp -implicitDefEqProofs (disch := first | assumption | omega | (simp [maxLen, zc4] <;> omega) | decide) only [q_r, ↓reduceIte, iD]
  refine hK2 _ _ ?_
  refine zaf fun K6 hK6 => ?_
  refine zab hp zad hc rfl fun K7 hK7 => ?_
  simp -dsimp -implicitDefEqProofs (disch := first | assumption | omega | (simp [maxLen, zc4] <;> omega) | decide) only [q_r, ↓reduceIte, Int.reduceLE, decide_true]
  refine hK7 _ _ ?_
  refine zag rfl (fun ht => ?_) (fun ht => ?_)
  ·refine zab hp zad hc rfl fun K8 hK8 => ?_
   simp -dsimp -implicitDefEqProofs (disch := first | assumption | omega | (simp [maxLen, zc4] <;> omega) | decide) only [q_r, zam, zb7, za6, ↓reduceIte, AV.one, D.one, Value.oneCell', Nat.reduceEqDiff, Nat.reduceAdd, znw, zq1, jhq, zt0, zt1, zpy, jho]
   refine hK8 _ _ ?_
   refine zbx hp (τ' := frL [(6, .op 4 0)]) (H' := [.dead, .dead, .cells (avs ((zdl acc).flatMap ndC)), .cells (avs ((zh5 V acc).map zas)), .cells [.os 3 2 0 acc.length, .os 1 3 0 acc.length, .d (iD 1)]]) ?_ ?_
   ·refine Rt.trans (Rt.view (keep := [1000, 1001, 0, 1, 6]) (by decide) (by intro i hi; simp at hi; rcases hi with rfl | rfl <;> simp)) ?_
    refine Rt.end (zaa (zae _) rfl) ?_
    first | rfl | (simp only [gcH, zbb, zap, zcb, gcV, Nat.reduceAdd, zcp, List.map_cons, List.map_nil, List.getD_cons_zero, List.getD_cons_succ, ↓reduceIte, Nat.reduceEqDiff, Option.map_some]; first | done | rfl)
   refine zao ?_
   try dsimp only [zfd, zcc]
   refine zch rfl ?_
   simp -dsimp -implicitDefEqProofs (disch := first | assumption | omega | (simp [maxLen, zc4] <;> omega) | decide) only [q_r, zam, ↓reduceIte, iD, Nat.reduceAdd, zpy, jhn]
   show ∃ _, _
   exact ⟨acc, rfl, by rw [znq]; rfl, _, rfl⟩
  ·cases ht
 ·rw [jcj hs q] at hcc
  simp -dsimp -implicitDefEqProofs (disch := first | assumption | omega | (simp [maxLen, zc4] <;> omega) | decide) only [q_r, ↓reduceIte, Nat.reduceEqDiff, Nat.reduceAdd]
  refine zb9 (hcc) rfl ?_
  simp -dsimp -implicitDefEqProofs (disch := first | assumption | omega | (simp [maxLen, zc4] <;> omega) | decide) only [q_r, ↓reduceIte, iD]
  refine hK2 _ _ ?_
  refine zaf fun K9 hK9 => ?_
  refine zab hp zad hc rfl fun K10 hK10 => ?_
  simp -dsimp -implicitDefEqProofs (disch := first | assumption | omega | (simp [maxLen, zc4] <;> omega) | decide) only [q_r, ↓reduceIte, Int.reduceLE, decide_false]
  refine hK10 _ _ ?_
  refine zag rfl (fun ht => ?_) (fun ht => ?_)
  ·cases ht
  ·refine zan (hK9 _ _ ?_)
   obtain ⟨v, l, h, rfl⟩ := zet q
   have hkv : k ≤ v := hs.1
   have hvV : v < V := hs.2.1
   have hok : (T.node v l h).Ok V v := ⟨Nat.le_refl _, hs.2⟩
   have hquo : ((pw V k : Nat) : Int) / 2 = ((pw V (k + 1) : Nat) : Int) := by rw [zx1 (show k < V by omega)]; omega
   refine zab hp zad hc rfl fun K11 hK11 => ?_
   simp -dsimp -implicitDefEqProofs (disch := first | assumption | omega | (simp [maxLen, zc4] <;> omega) | decide) only [q_r, zc1, zar, ↓reduceIte, Nat.reduceEqDiff, ze4]
   refine hK11 _ _ ?_
   refine zaf fun K12 hK12 => ?_
   refine zaq ?_
   refine za4 hp (fun τ' H' mm => ∃ (j : Nat), (k ≤ j ∧ j ≤ v) ∧ mm = v - j ∧ H' = [.cells (avs ((zdl acc).flatMap ndC)), .cells (avs ((zh5 V acc).map zas)), .free, .free, .free, .cells [.os 3 0 0 acc.length, .os 1 1 0 acc.length], .cells [.d (.val (.slice none 0 0)), .d (.val (.slice none 0 0)), .d (iD 0)]] ∧ τ' = frL [(1, .d (zas (tbF V j (.node v l h)))), (2, .d (iD j)), (3, .op 5 0), (6, .op 6 0), (8, .d (iD (pw V (j + 1))))]) (v - k) ?_ ⟨k, ⟨Nat.le_refl _, hkv⟩, rfl, rfl, rfl⟩ ?_
   ·refine Rt.end (zaa (zaa (zaa (zaa (zaa (zae _) (by first | rfl | (simp [frL, iD, zml]; done) | simp [frL, iD, zml, *])) rfl) rfl) rfl) rfl) ?_
    first | rfl | (simp only [zay, zas, zbm, zbr, zbp, gcH, zbb, zc7, zc0, zcq, zi5, zap, zcb, gcV, zei, fzH, zen, zdc, zdf, zbw, Nat.reduceAdd, zga, fzV, zcp, za2, zav, List.map_cons, List.map_nil, List.getD_cons_zero, List.getD_cons_succ, ↓reduceIte, Nat.reduceEqDiff, Option.map_some, List.set_cons_zero, List.set_cons_succ, zbf, zax, Nat.mul_one, List.length_map, List.cons_append, List.nil_append]; first | done | rfl)
   rintro τ' H' mm ⟨j, ⟨hkj, hjv⟩, rfl, rfl, rfl⟩
   refine zaf fun K13 hK13 => ?_
   have hjV : j < V := by omega
   have hp1 := zx1 (V := V) (k := j) hjV
   have hp0 := hpw j
   have hle : pw V (j + 1) ≤ (tbF V j (.node v l h)).length := by rw [zml]; omega
   have hb1 : ((0 : Int) ≤ 0 ∧ (0 : Int) ≤ ((pw V (j + 1) : Nat) : Int) ∧ ((pw V (j + 1) : Nat) : Int) ≤ (((tbF V j (.node v l h)).length : Nat) : Int)) = True := eq_true ⟨Int.le_refl _, by omega, by omega⟩
   refine zbo zad hc mixed rfl (q := 0) (by kernel_rfl) (by kernel_rfl) fun K14 hK14 => ?_
   simp -dsimp -implicitDefEqProofs (disch := first | assumption | omega | (simp [maxLen, zc4] <;> omega) | decide) only [q_r, zgz, ↓reduceIte, List.append_nil, List.replicate_zero, Int.toNat_natCast, Nat.reduceEqDiff, List.drop_zero, iD, zas, Nat.reduceAdd, Int.sub_zero, Int.toNat_zero, hb1, ze4]
   rw [zx2 hle, jf2 hle]
   refine zb9 (zuf ((tbF V j (.node v l h)).take (pw V (j + 1))) ((tbF V j (.node v l h)).drop (pw V (j + 1))) (by rw [List.length_take]; unfold maxLen; omega)) rfl ?_
   simp -dsimp -implicitDefEqProofs (disch := first | assumption | omega | (simp [maxLen, zc4] <;> omega) | decide) only [q_r, killAll, oD, zas, Nat.reduceAdd]
   refine hK14 _ _ ?_
   refine zag rfl (fun ht => ?_) (fun ht => ?_)
   ·have hjlt : j < v := by
     rcases Nat.lt_or_ge j v with h1 | h1
     ·exact h1
     ·exfalso
      have e : j = v := by omega
      subst e
      exact jio hok (of_decide_eq_true ht)
    have hTj : D.fs (List.take (pw V (j + 1)) ((tbF V j (.node v l h)).map oD)) (pw V (j + 1)) = zas (tbF V (j + 1) (.node v l h)) := by rw [zx2 hle]; exact congrArg zas (zqk hjV _)
    have hquo2 : ((pw V (j + 1) : Nat) : Int) / 2 = ((pw V (j + 2) : Nat) : Int) := by
     have h9 := zx1 (show j + 1 < V by omega)
     rw [show j + 1 + 1 = j + 2 from rfl] at h9
     omega
    refine zan (hK13 _ _ ?_)
    refine zaq ?_
    refine zab hp zad hc rfl fun K15 hK15 => ?_
    simp -dsimp -implicitDefEqProofs (disch := first | assumption | omega | (simp [maxLen, zc4] <;> omega) | decide) only [q_r, zgz, ↓reduceIte, Int.toNat_natCast, Nat.reduceEqDiff, List.drop_zero, Int.sub_zero, Int.toNat_zero, hb1, ze4]
    rw [hTj]
    refine hK15 _ _ ?_
    refine zab hp zad hc rfl fun K16 hK16 => ?_
    simp -dsimp -implicitDefEqProofs (disch := first | assumption | omega | (simp [maxLen, zc4] <;> omega) | decide) only [q_r, ↓reduceIte, Nat.reduceEqDiff, zas, hquo2]
    refine hK16 _ _ ?_
    refine zbs hp zad hc rfl fun K17 hK17 => ?_
    simp -dsimp -implicitDefEqProofs (disch := first | assumption | omega | (simp [maxLen, zc4] <;> omega) | decide) only [q_r, ↓reduceIte, Nat.reduceEqDiff]
    refine hK17 _ _ ⟨_, _, _, ?_, ⟨j + 1, ⟨by omega, by omega⟩, rfl, rfl, rfl⟩, ?_⟩
    ·first | omega | (simp only [List.length_cons]; omega) | (dsimp only; omega)
    ·refine Rt.end (zaa (zaa (zaa (zaa (zaa (zae _) rfl) rfl) rfl) rfl) rfl) ?_
     first | rfl | (simp only [zay, zas, zbm, zbr, zbp, gcH, zbb, zc7, zc0, zcq, zi5, zap, zcb, gcV, zei, fzH, zen, zdc, zdf, zbw, Nat.reduceAdd, zga, fzV, zcp, za2, zav, List.map_cons, List.map_nil, List.getD_cons_zero, List.getD_cons_succ, ↓reduceIte, Nat.reduceEqDiff, Option.map_some, List.set_cons_zero, List.set_cons_succ, zbf, zax, Nat.mul_one, List.length_map, List.cons_append, List.nil_append]; first | done | rfl)
   ·have hje : j = v := by
     rcases Nat.lt_or_ge j v with h1 | h1
     ·exfalso
      have h2 : ¬ (tbF V j (.node v l h)).take (pw V (j + 1)) = (tbF V j (.node v l h)).drop (pw V (j + 1)) := by simpa using ht
      exact h2 ((zqk hjV _).trans (zxz hjV (show (T.node v l h).Ok V (j + 1) from ⟨by omega, hs.2⟩)).symm)
     ·omega
    subst hje
    obtain ⟨s, hsd⟩ : ∃ s, s = T.node j l h := ⟨_, rfl⟩
    have hlf : s.lf = false := by rw [hsd]; rfl
    refine zbd (hK12 _ _ ?_)
    refine zaf fun K18 hK18 => ?_
    refine zab hp zad hc rfl fun K19 hK19 => ?_
    simp -dsimp -implicitDefEqProofs (disch := first | assumption | omega | (simp [maxLen, zc4] <;> omega) | decide) only [q_r]
    refine hK19 _ _ ?_
    refine zaq ?_
    refine za4 hp (fun τ' H' mm => ∃ (i : Nat), (i ≤ acc.length ∧ ∀ q, q < i → nth acc q ≠ .node j l h) ∧ mm = acc.length - i ∧ H' = [.cells (avs ((zdl acc).flatMap ndC)), .cells (avs ((zh5 V acc).map zas)), .free, .free, .free, .cells [.os 3 0 0 acc.length, .os 1 1 0 acc.length], .cells [.d (.val (.slice none 0 0)), .d (.val (.slice none 0 0)), .d (iD 0)]] ∧ τ' = frL [(1, .d (zas (tbF V j (.node j l h)))), (2, .d (iD j)), (3, .op 5 0), (6, .op 6 0), (8, .d (iD (pw V (j + 1)))), (9, .d (iD i))]) (acc.length) ?_ ⟨0, ⟨Nat.zero_le _, fun q hq => by omega⟩, rfl, rfl, rfl⟩ ?_
    ·refine Rt.end (zaa (zaa (zaa (zaa (zaa (zaa (zae _) rfl) rfl) rfl) rfl) rfl) rfl) ?_
     first | rfl | (simp only [zay, zas, zbm, zbr, zbp, gcH, zbb, zc7, zc0, zcq, zi5, zap, zcb, gcV, zei, fzH, zen, zdc, zdf, zbw, Nat.reduceAdd, zga, fzV, zcp, za2, zav, List.map_cons, List.map_nil, List.getD_cons_zero, List.getD_cons_succ, ↓reduceIte, Nat.reduceEqDiff, Option.map_some, List.set_cons_zero, List.set_cons_succ, zbf, zax, Nat.mul_one, List.length_map, List.cons_append, List.nil_append]; first | done | rfl)
    rintro τ' H' mm ⟨i, ⟨hi, hno⟩, rfl, rfl, rfl⟩
    refine zaf fun K20 hK20 => ?_
    refine zab hp zad hc rfl fun K21 hK21 => ?_
    simp -dsimp -implicitDefEqProofs (disch := first | assumption | omega | (simp [maxLen, zc4] <;> omega) | decide) only [q_r, zam, zac, zc1, zar, ↓reduceIte, Nat.reduceEqDiff, iD, zas, Nat.reduceAdd, zlp, zcj, zck, zcm]
    refine hK21 _ _ ?_
    refine zag rfl (fun ht => ?_) (fun ht => ?_)
    ·have hil : i < acc.length := by simp at ht; omega
     have hev := jp6 hil
     have htt := jip (V := V) hil
     refine zan (hK20 _ _ ?_)
     refine zaf fun K22 hK22 => ?_
     refine zaq ?_
     refine zab hp zad hc rfl fun K23 hK23 => ?_
     by_cases hvq : (nth acc i).v = j
     ·have qv : ((((nth (zdl acc) i).v : Nat) : Int) == ((j : Nat) : Int)) = true := by rw [hev, hvq]; simp
      rw [hvq] at htt
      simp -dsimp -implicitDefEqProofs (disch := first | assumption | omega | (simp [maxLen, zc4] <;> omega) | decide) only [q_r, zam, zac, ixO, zai, ↓reduceIte, and_true, Int.toNat_natCast, Nat.reduceEqDiff, iD, zas, Nat.reduceAdd, jow, qv, zlp, zcj, zck, zcm, zb4, zci, zcn, je2, job, joc, jb6, zqz, zq0]
      refine zb9 (zuf (nth (zh5 V acc) i) (tbF V j (.node j l h)) (by rw [htt, zml]; have := hpw j; unfold maxLen; omega)) rfl ?_
      simp -dsimp -implicitDefEqProofs (disch := first | assumption | omega | (simp [maxLen, zc4] <;> omega) | decide) only [q_r, ↓reduceIte, Nat.reduceEqDiff, oD]
      refine hK23 _ _ ?_
      refine zag rfl (fun ht => ?_) (fun ht => ?_)
      ·have hia : nth acc i ∈ acc := zcf hil
       obtain ⟨v2, l2, h2, e2⟩ := hr.node hia
       have hfi : nth acc i = .node j l h := zx0 (k := j) (by rw [e2] at hvq ⊢; have := hr.ok _ hia; rw [e2] at this; exact ⟨Nat.le_of_eq hvq.symm, this.2⟩) hok (by rw [← htt]; simpa using ht)
       have hnu : num acc (.node j l h) = i + 2 := by
        have h3 := ze1 hr (k := i + 2) (by omega)
        have h4 : nth (zbn acc) (i + 2) = nth acc i := by unfold zbn nth; simp
        rw [h4, hfi] at h3
        exact h3
       refine zab hp zad hc rfl fun K24 hK24 => ?_
       simp -dsimp -implicitDefEqProofs (disch := first | assumption | omega | (simp [maxLen, zc4] <;> omega) | decide) only [q_r, zam, zb7, za6, ↓reduceIte, AV.one, D.one, Value.oneCell', Nat.reduceEqDiff, Nat.reduceAdd, znw, zq1, jhq, zt0, zt1, zpy, jho]
       refine hK24 _ _ ?_
       refine zbx hp (τ' := frL [(6, .op 4 0)]) (H' := [.dead, .dead, .cells (avs ((zdl acc).flatMap ndC)), .cells (avs ((zh5 V acc).map zas)), .cells [.os 3 2 0 acc.length, .os 1 3 0 acc.length, .d (iD (i + 2 : Nat))]]) ?_ ?_
       ·refine Rt.trans (Rt.view (keep := [1000, 1001, 0, 1, 6]) (by decide) (by intro i hi; simp at hi; rcases hi with rfl | rfl <;> simp)) ?_
        refine Rt.end (zaa (zae _) rfl) ?_
        first | rfl | (simp only [gcH, zbb, zap, zcb, gcV, Nat.reduceAdd, zcp, List.map_cons, List.map_nil, List.getD_cons_zero, List.getD_cons_succ, ↓reduceIte, Nat.reduceEqDiff, Option.map_some]; first | done | rfl)
       refine zao ?_
       try dsimp only [zfd, zcc]
       refine zch rfl ?_
       simp -dsimp -implicitDefEqProofs (disch := first | assumption | omega | (simp [maxLen, zc4] <;> omega) | decide) only [q_r, zam, ↓reduceIte, iD, Nat.reduceAdd, zpy, jhn]
       show ∃ _, _
       refine ⟨acc, ?_, by rw [hnu]; rfl, _, rfl⟩
       unfold zeu
       rw [if_pos (hfi ▸ hia)]
      ·have hnq : nth acc i ≠ .node j l h := fun e => by rw [htt, e] at ht; simp at ht
       refine zan (hK22 _ _ ?_)
       refine zbs hp zad hc rfl fun K25 hK25 => ?_
       simp -dsimp -implicitDefEqProofs (disch := first | assumption | omega | (simp [maxLen, zc4] <;> omega) | decide) only [q_r, ↓reduceIte, Nat.reduceEqDiff]
       refine hK25 _ _ ⟨_, _, _, ?_, ⟨i + 1, ⟨by omega, fun q hq => by by_cases e : q = i; rw [e]; exact hnq; exact hno q (by omega)⟩, rfl, rfl, rfl⟩, ?_⟩
       ·first | omega | (simp only [List.length_cons]; omega) | (dsimp only; omega)
       ·refine Rt.end (zaa (zaa (zaa (zaa (zaa (zaa (zae _) rfl) rfl) rfl) rfl) rfl) rfl) ?_
        first | rfl | (simp only [zay, zas, zbm, zbr, zbp, gcH, zbb, zc7, zc0, zcq, zi5, zap, zcb, gcV, zei, fzH, zen, zdc, zdf, zbw, Nat.reduceAdd, zga, fzV, zcp, za2, zav, List.map_cons, List.map_nil, List.getD_cons_zero, List.getD_cons_succ, ↓reduceIte, Nat.reduceEqDiff, Option.map_some, List.set_cons_zero, List.set_cons_succ, zbf, zax, Nat.mul_one, List.length_map, List.cons_append, List.nil_append]; first | done | rfl)
     ·have qv : ((((nth (zdl acc) i).v : Nat) : Int) == ((j : Nat) : Int)) = false := by rw [hev]; simp; omega
      simp -dsimp -implicitDefEqProofs (disch := first | assumption | omega | (simp [maxLen, zc4] <;> omega) | decide) only [q_r, zam, zac, ixO, zai, ↓reduceIte, and_true, Int.toNat_natCast, Nat.reduceEqDiff, iD, Nat.reduceAdd, jow, qv, zlp, zcj, zck, zcm, zb4, zci, zcn]
      refine hK23 _ _ ?_
      refine zag rfl (fun ht => ?_) (fun ht => ?_)
      ·cases ht
      ·have hnq : nth acc i ≠ .node j l h := fun e => hvq (by rw [e]; rfl)
       refine zan (hK22 _ _ ?_)
       refine zbs hp zad hc rfl fun K26 hK26 => ?_
       simp -dsimp -implicitDefEqProofs (disch := first | assumption | omega | (simp [maxLen, zc4] <;> omega) | decide) only [q_r, ↓reduceIte, Nat.reduceEqDiff]
       refine hK26 _ _ ⟨_, _, _, ?_, ⟨i + 1, ⟨by omega, fun q hq => by by_cases e : q = i; rw [e]; exact hnq; exact hno q (by omega)⟩, rfl, rfl, rfl⟩, ?_⟩
       ·first | omega | (simp only [List.length_cons]; omega) | (dsimp only; omega)
       ·refine Rt.end (zaa (zaa (zaa (zaa (zaa (zaa (zae _) rfl) rfl) rfl) rfl) rfl) rfl) ?_
        first | rfl | (simp only [zay, zas, zbm, zbr, zbp, gcH, zbb, zc7, zc0, zcq, zi5, zap, zcb, gcV, zei, fzH, zen, zdc, zdf, zbw, Nat.reduceAdd, zga, fzV, zcp, za2, zav, List.map_cons, List.map_nil, List.getD_cons_zero, List.getD_cons_succ, ↓reduceIte, Nat.reduceEqDiff, Option.map_some, List.set_cons_zero, List.set_cons_succ, zbf, zax, Nat.mul_one, List.length_map, List.cons_append, List.nil_append]; first | done | rfl)
    ·have hie : i = acc.length := by simp at ht; omega
     have hnin : T.node j l h ∉ acc := fun hm => by
      obtain ⟨q, hq, e⟩ := List.getElem_of_mem hm
      exact hno q (by omega) (by rw [zcd hq]; exact e)
     have hTl : D.fs (List.take (pw V (j + 1)) ((tbF V j (.node j l h)).map oD)) (pw V (j + 1)) = zas (tbF V (j + 1) l) := by rw [zx2 hle]; exact congrArg zas (zql hok)
     have hTh : D.fs (List.take ((((tbF V j (.node j l h)).length : Nat) : Int) - ((pw V (j + 1) : Nat) : Int)).toNat (List.drop (pw V (j + 1)) ((tbF V j (.node j l h)).map oD))) ((((tbF V j (.node j l h)).length : Nat) : Int) - ((pw V (j + 1) : Nat) : Int)).toNat = zas (tbF V (j + 1) h) := by rw [jf2 hle]; exact congrArg zas (zqm hok)
     have hszl : l.sz < (T.node j l h).sz := by simp only [T.sz]; omega
     have hszh : h.sz < (T.node j l h).sz := by simp only [T.sz]; omega
     have hlen1 := hlen
     simp only [T.sz] at hlen1
     have hgr1 := zqc l acc
     have hok1 : l.Ok V (j + 1) := hok.2.2.2.1
     have hok2 : h.Ok V (j + 1) := hok.2.2.2.2
     have hr1 := zio l (j + 1) acc hok1 hr
     have hr2 := zio h (j + 1) (zeu l acc) hok2 hr1
     have hgr2 := zqc h (zeu l acc)
     have hb2 := hb1
     refine zbd (hK18 _ _ ?_)
     refine ze9 zad hp hc mixed rfl [(0, []), (1, []), (2, []), (3, []), (4, []), (5, []), (7, []), (6, []), (8, [])] [[], [], [], [1, 2], [], [4], [0, 1, 2, 3, 4, 5], [], [0, 1, 2, 3, 4, 5, 6, 7]] 1 (by kernel_rfl) fun K27 hK27 => ?_
     simp -dsimp -implicitDefEqProofs (disch := first | assumption | omega | (simp [maxLen, zc4] <;> omega) | decide) only [q_r, zam, zgz, zb0, zc6, ↓reduceIte, List.replicate_zero, List.replicate_succ, Int.toNat_natCast, Nat.reduceEqDiff, shB, zqn, List.drop_zero, Nat.reduceAdd, zc6, zpe, Int.sub_zero, Int.toNat_zero, List.getD_cons_zero, List.getD_cons_succ, hb1, znw, zq1, ze4, jhp]
     rw [hTl]
     refine zma (S := zi7 V acc) (T := [.cells [.os 3 0 0 acc.length, .os 1 1 0 acc.length], .cells [.d (.val (.slice none 0 0)), .d (.val (.slice none 0 0)), .d (iD 0)], .cells [.d (.val (.slice none 0 0)), .d (.val (.slice none 0 0)), .d (iD 0)]]) (ih l hszl (j + 1) _ acc rfl hok1 (by omega) hr (by omega)) rfl (Nat.le_of_ble_eq_true rfl) (by first | rfl | (simp [AV.allIs, AV.allI, zaz, za5, za3, okI, ltI, zak, zbj, zi7]; done) | (intro o ho; simp at ho; done)) (fun t => zbv (by first | rfl | (simp [AV.allIs, AV.allI, zaz, za5, za3, okI, ltI, zak, zbj, zi7]; done) | (intro o ho; simp at ho; done)) t) (fun t => zbv (by first | rfl | (simp [AV.allIs, AV.allI, zaz, za5, za3, okI, ltI, zak, zbj, zi7]; done) | (intro o ho; simp at ho; done)) t) (by first | rfl | (simp [AV.allIs, AV.allI, zaz, za5, za3, okI, ltI, zak, zbj, zi7]; done) | (intro o ho; simp at ho; done)) (by first | rfl | (simp [zaz, za3, zak, zi7]; done) | (intro o ho; simp at ho; done)) (by first | rfl | (simp [AV.allIs, AV.allI, zaz, okI, zi7]; done) | (intro o ho; simp at ho; done)) ?_
     rintro _ _ ⟨acc1, hacc1, rfl, j1, rfl⟩
     refine ⟨rfl, ?_⟩
     simp -dsimp -implicitDefEqProofs (disch := first | assumption | omega | (simp [maxLen, zc4] <;> omega) | decide) only [q_r, za6, ↓reduceIte, AV.one, D.one, Value.oneCell', Nat.reduceEqDiff, iD, zas, Nat.reduceAdd, zpy]
     refine hK27 _ _ ?_
     refine zbx hp (τ' := frL [(1, .d (zas (tbF V j (.node j l h)))), (2, .d (iD j)), (6, .op 7 0), (8, .d (iD (pw V (j + 1)))), (10, .op 8 0)]) (H' := [.dead, .dead, .cells (avs ((zdl acc1).flatMap ndC)), .cells (avs ((zh5 V acc1).map zas)), .free, .free, .free, .cells [.d (.val (.slice none 0 0)), .d (.val (.slice none 0 0)), .d (iD 0)], .cells [.os 3 2 0 acc1.length, .os 1 3 0 acc1.length, .d (iD (num acc1 l : Nat))]]) ?_ ?_
     ·refine Rt.trans (Rt.free3) ?_
      refine Rt.trans (Rt.gc (keep := [0,1,2,3,8,9,10,6,7]) (by decide) (by decide) (by simp [])) ?_
      refine Rt.end (zaa (zaa (zaa (zaa (zaa (zae _) rfl) rfl) rfl) rfl) rfl) ?_
      first | rfl | (simp only [gcH, zbb, zc7, zc0, zap, zcb, gcV, Nat.reduceAdd, zcp, List.map_cons, List.map_nil, List.getD_cons_zero, List.getD_cons_succ, ↓reduceIte, Nat.reduceEqDiff, Option.map_some, List.cons_append, List.nil_append]; first | done | rfl)
     rw [← hacc1] at hr1 hgr1 hr2 hgr2
     refine ze9 zad hp hc mixed rfl [(0, []), (1, []), (2, []), (3, []), (4, []), (5, []), (6, []), (8, []), (7, []), (9, [])] [[], [0], [], [], [2, 3], [], [5], [0, 1, 2, 3, 4, 5, 6], [], [0, 1, 2, 3, 4, 5, 6, 7, 8]] 1 (by kernel_rfl) fun K28 hK28 => ?_
     simp -dsimp -implicitDefEqProofs (disch := first | assumption | omega | (simp [maxLen, zc4] <;> omega) | decide) only [q_r, zam, zac, zgz, zb0, zc6, ↓reduceIte, List.replicate_zero, List.replicate_succ, Int.toNat_natCast, Nat.reduceEqDiff, shB, zqn, iD, zas, Nat.reduceAdd, zc6, zpe, List.getD_cons_zero, List.getD_cons_succ, zxn, znw, zq1, ze4, jhp]
     rw [hTh]
     refine zma (S := .dead :: .dead :: zi7 V acc1) (T := [.cells [.d (.val (.slice none 0 0)), .d (.val (.slice none 0 0)), .d (iD 0)], .cells [.os 3 2 0 acc1.length, .os 1 3 0 acc1.length, .d (iD (num acc1 l : Nat))], .cells [.d (.val (.slice none 0 0)), .d (.val (.slice none 0 0)), .d (iD 0)]]) (VsC.up (ih h hszh) (j + 1) _ acc1 rfl hok2 (by omega) hr1 (by omega)) rfl (Nat.le_of_ble_eq_true rfl) (by first | rfl | (simp [AV.allIs, AV.allI, zaz, za5, za3, okI, ltI, zak, zbj, zi7]; done) | (intro o ho; simp at ho; done)) (fun t => zbv (by first | rfl | (simp [AV.allIs, AV.allI, zaz, za5, za3, okI, ltI, zak, zbj, zi7]; done) | (intro o ho; simp at ho; done)) t) (fun t => zbv (by first | rfl | (simp [AV.allIs, AV.allI, zaz, za5, za3, okI, ltI, zak, zbj, zi7]; done) | (intro o ho; simp at ho; done)) t) (by first | rfl | (simp [AV.allIs, AV.allI, zaz, za5, za3, okI, ltI, zak, zbj, zi7]; done) | (intro o ho; simp at ho; done)) (by first | rfl | (simp [zaz, za5, za3, zak, zi7]; done) | (intro o ho; simp at ho; done)) (by first | rfl | (simp [AV.allIs, AV.allI, zaz, okI, zi7]; done) | (intro o ho; simp at ho; done)) ?_
     rintro _ _ ⟨acc2, hacc2, rfl, j2, rfl⟩
     refine ⟨rfl, ?_⟩
     simp -dsimp -implicitDefEqProofs (disch := first | assumption | omega | (simp [maxLen, zc4] <;> omega) | decide) only [q_r, za6, ↓reduceIte, AV.one, D.one, Value.oneCell', Nat.reduceEqDiff, iD, zas, Nat.reduceAdd, zpy]
     refine hK28 _ _ ?_
     refine zbx hp (τ' := frL [(1, .d (zas (tbF V j (.node j l h)))), (2, .d (iD j)), (6, .op 4 0), (10, .op 5 0), (11, .op 6 0)]) (H' := [.dead, .dead, .cells (avs ((zdl acc2).flatMap ndC)), .cells (avs ((zh5 V acc2).map zas)), .cells [.d (.val (.slice none 0 0)), .d (.val (.slice none 0 0)), .d (iD 0)], .cells [.any, .any, .d (iD (num acc1 l : Nat))], .cells [.os 3 2 0 acc2.length, .os 1 3 0 acc2.length, .d (iD (num acc2 h : Nat))]]) ?_ ?_
     ·refine Rt.trans (Rt.gc (keep := [0,1,4,5,7,8,9]) (by decide) (by decide) (by simp [])) ?_
      refine Rt.end (zaa (zaa (zaa (zaa (zaa (zae _) rfl) rfl) rfl) rfl) rfl) ?_
      first | rfl | (simp only [gcH, zbb, zc7, zap, zcb, gcV, Nat.reduceAdd, zcp, List.map_cons, List.map_nil, List.getD_cons_zero, List.getD_cons_succ, ↓reduceIte, Nat.reduceEqDiff, Option.map_some]; first | done | rfl)
     rw [← hacc2] at hr2 hgr2
     have hn1 : num acc2 l = num acc1 l := zd9 (by rw [hacc2]; exact zjt h acc1) (by rw [hacc1]; exact zju l acc)
     have hin1 : l ∈ zbn acc2 := zcs (by rw [hacc2]; exact zjt h acc1) (by rw [hacc1]; exact zju l acc)
     have hin2 : h ∈ zbn acc2 := by rw [hacc2]; exact zju h acc1
     have hvis : zeu (.node j l h) acc = acc2 ++ [.node j l h] := by
      show (if _ then _ else _) = _
      rw [if_neg hnin, ← hacc1, ← hacc2]
     have hrow := zio (.node j l h) j acc hok hr
     rw [hvis] at hrow
     have hnf : T.node j l h ∉ zbn acc2 := fun hm => by
      have := hrow.nd
      rw [zf5, List.nodup_append] at this
      exact this.2.2 _ hm _ (by simp) rfl
     have hnum : num (acc2 ++ [.node j l h]) (.node j l h) = 2 + acc2.length := zpp hnf
     have htb2 : zh5 V (acc2 ++ [.node j l h]) = zh5 V acc2 ++ [tbF V j (.node j l h)] := by simp [zh5, T.v]
     have hsn := zp4 hr2 (t := .node j l h) hin1 hin2
     refine zab hp zad hc rfl fun K29 hK29 => ?_
     simp -dsimp -implicitDefEqProofs (disch := first | assumption | omega | (simp [maxLen, zc4] <;> omega) | decide) only [q_r, zau, zam, zac, zb0, za6, ↓reduceIte, AV.one, Nat.reduceEqDiff, iD, zas, Nat.reduceAdd, zau, zxn, znw, zq1, jle]
     refine hK29 _ _ ?_
     refine zab hp zad hc rfl fun K30 hK30 => ?_
     simp -dsimp -implicitDefEqProofs (disch := first | assumption | omega | (simp only [maxLen, List.length_replicate, eq_self, true_and, and_true, and_self, zah, List.length_map, List.length_append, List.length_cons, List.length_nil, List.length_set, List.length_range, List.length_take, List.length_drop, zbq, zbc, zml, zh6] <;> omega) | decide | fail) only [q_r, zau, Option.map_some, zam, zac, zb7, zb0, zic, za6, ↓reduceIte, Bool.false_eq_true, eq_self, zat, zcw, zdo, zb2, List.map_cons, List.map_nil, List.length_cons, List.length_nil, List.getElem?_cons_zero, List.getElem?_cons_succ, List.cons_append, List.nil_append, List.append_nil, List.set_cons_zero, List.set_cons_succ, List.replicate_zero, List.replicate_succ, List.all_cons, List.all_nil, zdg, zl2, zfh, zdh, zcx, AV.one, D.one, Value.oneCell', Bool.and_self, true_and, Nat.zero_add, Nat.add_zero, Nat.reduceEqDiff, List.drop_zero, Nat.reduceAdd, List.nil_append, zau, Nat.zero_mul, Nat.reduceMul, List.flatten_cons, List.flatten_nil, zlp, zcj, zck, je3, zci, zcn, jb9, znv, zpw, zpx, jb8, jb2]
     refine hK30 _ _ ?_
     refine zab hp zad hc rfl fun K31 hK31 => ?_
     simp -dsimp -implicitDefEqProofs (disch := first | assumption | omega | (simp [maxLen, zc4] <;> omega) | decide) only [q_r, zau, zam, zac, zb0, zic, za6, ↓reduceIte, List.append_nil, List.replicate_zero, List.replicate_succ, Nat.reduceEqDiff, List.drop_zero, Nat.reduceAdd, zau, List.length_map, je2, job, joc, jod]
     refine hK31 _ _ ?_
     refine zab hp zad hc rfl fun K32 hK32 => ?_
     simp -dsimp -implicitDefEqProofs (disch := first | assumption | omega | (simp [maxLen, zc4] <;> omega) | decide) only [q_r, zam, zac, zb7, zc1, zar, za6, ↓reduceIte, AV.one, D.one, Value.oneCell', Nat.reduceEqDiff, Nat.reduceAdd, znw, zq1, zlp, zcj, zck, zcm, jhq, zt0, zt1, zpy, jho]
     refine hK32 _ _ ?_
     refine zbx hp (τ' := frL [(6, .op 4 0)]) (H' := [.dead, .dead, .cells (avs ((zdl (acc2 ++ [.node j l h])).flatMap ndC)), .cells (avs ((zh5 V (acc2 ++ [.node j l h])).map zas)), .cells [.os 3 2 0 (acc2 ++ [T.node j l h]).length, .os 1 3 0 (acc2 ++ [T.node j l h]).length, .d (iD (2 + acc2.length : Nat))]]) ?_ ?_
     ·refine Rt.trans (Rt.gc (keep := [0,1,9,11,4]) (by decide) (by decide) (by simp [])) ?_
      refine Rt.end (zaa (zae _) rfl) ?_
      simp only [gcH, zbb, zc7, zap, zcb, gcV, Nat.reduceAdd, zcp, List.map_cons, List.map_nil, List.getD_cons_zero, List.getD_cons_succ, ↓reduceIte, Nat.reduceEqDiff, Option.map_some]; rw [hsn, htb2]; simp [ndC, zhz, T.v, T.l, T.h, iD, hn1, zas]; omega
     refine zao ?_
     try dsimp only [zfd, zcc]
     refine zch rfl ?_
     simp -dsimp -implicitDefEqProofs (disch := first | assumption | omega | (simp [maxLen, zc4] <;> omega) | decide) only [q_r, zam, ↓reduceIte, iD, Nat.reduceAdd, zpy, jhn]
     show ∃ _, _
     exact ⟨acc2 ++ [.node j l h], hvis.symm, by rw [hnum]; rfl, _, rfl⟩
theorem zx3 (V : Nat) (hV : V ≤ 19) : ∀ (m : Nat) (s : T), s.sz ≤ m → VsC V s
 | 0, s, h => by cases s <;> simp [T.sz] at h
 | m + 1, s, h => fun k ki acc hki hs hkV hr hlen => jmi V hV s (fun u hu => zx3 V hV m u (by omega)) k ki acc hki hs hkV hr hlen
end Go.Proofs.Ytgfnpfchdlcoeaa

/- The reference's values of nodes. -/
set_option linter.unusedVariables false
set_option linter.unusedSimpArgs false
set_option maxRecDepth 100000
set_option maxHeartbeats 4000000
namespace Go.Proofs.Ytgfnpfchdlcoeaa
open Go Go.RowKit
theorem jf3 (a b c : Bool) : zbi Try.prog 83 [oD a, oD b, oD c] (.d (iD (jh0 a b c))) := by
 cases a <;> cases b <;> cases c <;> exact zm1 (n := 60) mixed zad (by kernel_rfl)
theorem jp7 (mems : List (List Int)) (n x : Int) (hn : 0 ≤ n) (hn2 : n < 1000000) (hx : 0 ≤ x) : zbi Try.prog 82 [zbr mems, iD n, iD x] (.d (oD (zt3 mems n x))) := by
 have hu : IntKind.u64.wrap (n % 8) = n % 8 := zoe (by omega) (by omega)
 refine za8 (fn := Try.f82) (by kernel_rfl) Try.func82 rfl (Nat.le_of_ble_eq_true rfl) fun c hc hp => ?_
 refine zba (τ' := frL [(0, .d (zbr mems)), (1, .d (iD n)), (2, .d (iD x))]) (zaa (zaa (zaa (zae _) rfl) rfl) rfl) ?_
 refine zab hp zad hc rfl fun K1 hK1 => ?_
 simp -dsimp -implicitDefEqProofs (disch := first | assumption | omega | (simp [maxLen, zah] <;> omega) | decide) only [q_r, iD, zbr, zbr]
 refine hK1 _ _ ?_
 refine zaf fun K2 hK2 => ?_
 refine zab hp zad hc rfl fun K3 hK3 => ?_
 by_cases h1 : n / 8 < mems.length
 by_cases h2 : x < (nth mems (n / 8).toNat).length
 ·have q1 : decide ((mems.length : Int) ≤ n / 8) = false := by simp; omega
  have q2 : decide (((nth mems (n / 8).toNat).length : Int) ≤ x) = false := by simp; omega
  simp -dsimp -implicitDefEqProofs (disch := first | assumption | omega | (simp [maxLen, zah] <;> omega) | decide) only [q_r, zam, ixO, zai, zc1, zar, ↓reduceIte, Nat.reduceEqDiff, zay, q1, q2, jhh, zea, zeb, zc3]
  refine hK3 _ _ ?_
  refine zag rfl (fun ht => ?_) (fun ht => ?_)
  ·cases ht
  ·refine zan (hK2 _ _ ?_)
   refine zab hp zad hc rfl fun K4 hK4 => ?_
   simp -dsimp -implicitDefEqProofs (disch := first | assumption | omega | (simp [maxLen, zah] <;> omega) | decide) only [q_r, zam, ixO, zai, zf9, ↓reduceIte, Nat.reduceEqDiff, iD, zay, hu, zci, zcn, zsk, jhh, zea, zeb, zc3, jb7]
   refine hK4 _ _ ?_
   refine zao ?_
   show zaj _ _ = _
   simp (disch := first | assumption | omega | (simp [maxLen, zah] <;> omega) | decide) only [zaj, zct, za1, D.fix, zat, ↓reduceIte, Option.map_some, List.length_nil, oD]
   simp [zt3, h1, h2, jlh]
 ·have q1 : decide ((mems.length : Int) ≤ n / 8) = false := by simp; omega
  have q2 : decide (((nth mems (n / 8).toNat).length : Int) ≤ x) = true := by simp; omega
  simp -dsimp -implicitDefEqProofs (disch := first | assumption | omega | (simp [maxLen, zah] <;> omega) | decide) only [q_r, zam, ixO, zai, zc1, zar, ↓reduceIte, Nat.reduceEqDiff, zay, q1, q2, jhh, zea, zeb, zc3]
  refine hK3 _ _ ?_
  refine zag rfl (fun ht => ?_) (fun ht => ?_)
  ·refine zab hp zad hc rfl fun K5 hK5 => ?_
   simp -dsimp -implicitDefEqProofs (disch := first | assumption | omega | (simp [maxLen, zah] <;> omega) | decide) only [q_r]
   refine hK5 _ _ ?_
   refine zao ?_
   show zaj _ _ = _
   simp (disch := first | assumption | omega | (simp [maxLen, zah] <;> omega) | decide) only [zaj, zct, za1, D.fix, zat, ↓reduceIte, Option.map_some, List.length_nil, oD]
   simp [zt3, h1, h2]
  ·cases ht
 ·have q1 : decide ((mems.length : Int) ≤ n / 8) = true := by simp; omega
  have h2 := h1
  have q2 := q1
  simp -dsimp -implicitDefEqProofs (disch := first | assumption | omega | (simp [maxLen, zah] <;> omega) | decide) only [q_r, zc1, zar, ↓reduceIte, Nat.reduceEqDiff, q1, jhh]
  refine hK3 _ _ ?_
  refine zag rfl (fun ht => ?_) (fun ht => ?_)
  ·refine zab hp zad hc rfl fun K6 hK6 => ?_
   simp -dsimp -implicitDefEqProofs (disch := first | assumption | omega | (simp [maxLen, zah] <;> omega) | decide) only [q_r]
   refine hK6 _ _ ?_
   refine zao ?_
   show zaj _ _ = _
   simp (disch := first | assumption | omega | (simp [maxLen, zah] <;> omega) | decide) only [zaj, zct, za1, D.fix, zat, ↓reduceIte, Option.map_some, List.length_nil, oD]
   simp [zt3, h1]
  ·cases ht
theorem zcv : (type_of% @zah) ∧ (type_of% @zby) ∧ (type_of% @zbe) ∧ (type_of% @zg3) := ⟨@zah, @zby, @zbe, @zg3⟩
theorem jf4 (n : Net) (inp : List Bool) (mems : List (List Int)) (hg : GatesOk (2 + inp.length) n.gates) (h1 : inp.length ≤ 1000000) (h2 : n.gates.length ≤ 1000000) : zbi Try.prog 64 [zf1 n, zas inp, zbr mems] (.d (zas (jce n.gates inp mems))) := by
 refine za8 (fn := Try.f64) (by kernel_rfl) Try.func64 rfl (Nat.le_of_ble_eq_true rfl) fun c hc hp => ?_
 refine zba (τ' := frL [(0, .d (zf1 n)), (1, .d (zas inp)), (2, .d (zbr mems))]) (zaa (zaa (zaa (zae _) rfl) rfl) rfl) ?_
 refine zab hp zad hc rfl fun K1 hK1 => ?_
 simp -dsimp -implicitDefEqProofs (disch := first | assumption | omega | (simp [maxLen, zcv] <;> omega) | decide) only [q_r, zau, zb0, ↓reduceIte, D.one, zay, zas, zbr, zau, zf1, zc2, zbh, zbg]
 refine hK1 _ _ ?_
 refine zab hp zad hc rfl fun K2 hK2 => ?_
 simp -dsimp -implicitDefEqProofs (disch := first | assumption | omega | (simp [maxLen, zcv] <;> omega) | decide) only [q_r, zau, zb0, zic, ↓reduceIte, List.replicate_zero, List.replicate_succ, Nat.reduceEqDiff, List.drop_zero, Nat.reduceAdd, zau, List.length_map, zmb]
 refine hK2 _ _ ?_
 refine zaf fun K3 hK3 => ?_
 refine zab hp zad hc rfl fun K4 hK4 => ?_
 simp -dsimp -implicitDefEqProofs (disch := first | assumption | omega | (simp [maxLen, zcv] <;> omega) | decide) only [q_r]
 refine hK4 _ _ ?_
 refine zaq ?_
 refine za4 hp (fun τ' H' mm => ∃ (k : Nat), (k ≤ n.gates.length) ∧ mm = n.gates.length - k ∧ H' = [.cells (avs (zc2 n)), .cells (avs ((zhg mems (false :: true :: inp) (n.gates.take k)).map oD))] ∧ τ' = frL [(2, .d (zbr mems)), (3, .op 0 0), (7, .os 1 1 0 (2 + inp.length + k)), (8, .d (iD k))]) (n.gates.length) ?_ ⟨0, Nat.zero_le _, rfl, rfl, rfl⟩ ?_
 ·refine Rt.trans (Rt.gc (keep := [0,2]) (by decide) (by decide) (by simp [])) ?_
  refine Rt.end (zaa (zaa (zaa (zaa (zae _) rfl) rfl) rfl) rfl) ?_
  simp only [zay, gcH, zbb, zap, zcb, gcV, za2, zav, List.map_cons, List.map_nil, List.getD_cons_zero, List.getD_cons_succ, zc2, zbh, zbg]; simp [zhg, oD]; rfl
 rintro τ' H' mm ⟨k, hk, rfl, rfl, rfl⟩
 refine zaf fun K5 hK5 => ?_
 refine zab hp zad hc rfl fun K6 hK6 => ?_
 simp -dsimp -implicitDefEqProofs (disch := first | assumption | omega | (simp [maxLen, zcv] <;> omega) | decide) only [q_r, zam, zac, zc1, zar, ↓reduceIte, Nat.reduceEqDiff, iD, zay, zbr, Nat.reduceAdd, zc2, zbh, zbg, zge, zog, zoh, ztu]
 refine hK6 _ _ ?_
 refine zag rfl (fun ht => ?_) (fun ht => ?_)
 ·have hlt : k < n.gates.length := by simp at ht; omega
  have ok := hg k hlt
  obtain ⟨o1, o2, a0, a1, b0, b1, c0, c1, n0, n1⟩ := ok
  have hl : (zhg mems (false :: true :: inp) (n.gates.take k)).length = 2 + inp.length + k := by rw [zg3]; simp; omega
  refine zan (hK5 _ _ ?_)
  refine zaf fun K7 hK7 => ?_
  refine zaq ?_
  refine zab hp zad hc rfl fun K8 hK8 => ?_
  simp -dsimp -implicitDefEqProofs (disch := first | assumption | omega | (simp [maxLen, zcv] <;> omega) | decide) only [q_r, zau, zam, zac, ixO, zai, zb0, za6, ↓reduceIte, D.one, Value.oneCell', Int.toNat_natCast, Nat.reduceEqDiff, iD, Nat.reduceAdd, zau, zze, zd4, zge, zog, zoh, ztu, ztw, zv5, jk8]
  refine hK8 _ _ ?_
  refine zbo zad hc mixed rfl (q := 0) (by kernel_rfl) (by kernel_rfl) fun K9 hK9 => ?_
  simp -dsimp -implicitDefEqProofs (disch := first | assumption | omega | (simp [maxLen, zcv] <;> omega) | decide) only [q_r, zam, zac, ixO, zai, ↓reduceIte, List.append_nil, List.replicate_zero, and_true, Nat.reduceEqDiff, killAll, oD, Nat.reduceAdd, zxi, zci, zcn, ze4, zus, jep, ztx, zty]
  obtain ⟨x, hx⟩ : ∃ x, x = nth (zhg mems (false :: true :: inp) (n.gates.take k)) (nth n.gates k).a.toNat := ⟨_, rfl⟩
  obtain ⟨y, hy⟩ : ∃ y, y = nth (zhg mems (false :: true :: inp) (n.gates.take k)) (nth n.gates k).b.toNat := ⟨_, rfl⟩
  obtain ⟨z, hz⟩ : ∃ z, z = nth (zhg mems (false :: true :: inp) (n.gates.take k)) (nth n.gates k).c.toNat := ⟨_, rfl⟩
  have hop : opN mems (zhg mems (false :: true :: inp) (n.gates.take k)) (nth n.gates k) = if (nth n.gates k).op = 7 then zt3 mems (nth n.gates k).n (jh0 x y z) else if (nth n.gates k).op = 1 then !x else if (nth n.gates k).op = 2 then x && y else if (nth n.gates k).op = 3 then x || y else if (nth n.gates k).op = 4 then x != y else if (nth n.gates k).op = 5 then (if x then y else z) else x && (y || z) || y && z := by rw [hx, hy, hz]; rfl
  rw [← hx, ← hy, ← hz]
  obtain ⟨w0, hw0⟩ : ∃ w0, w0 = opN mems (zhg mems (false :: true :: inp) (n.gates.take k)) (nth n.gates k) := ⟨_, rfl⟩
  rw [← hw0] at hop
  replace hw0 := hw0.symm
  clear hx hy hz
  refine hK9 _ _ ?_
  refine zab hp zad hc rfl fun K10 hK10 => ?_
  simp -dsimp -implicitDefEqProofs (disch := first | assumption | omega | (simp [maxLen, zcv] <;> omega) | decide) only [q_r]
  refine hK10 _ _ ?_
  refine zaf fun K11 hK11 => ?_
  have hJ11 : ∀ τ' H', (∃ τ1 H1, H1 = [.cells (avs (zc2 n)), .cells (avs ((zhg mems (false :: true :: inp) (n.gates.take k)).map oD)), .cells (avs (zd4 (nth n.gates k)))] ∧ τ1 = frL [(2, .d (zbr mems)), (3, .op 0 0), (7, .os 1 1 0 (2 + inp.length + k)), (8, .d (iD k)), (13, .d (oD w0))] ∧ Rt [] τ' H' τ1 H1) → K11 τ' H' := by
   rintro τ' H' ⟨_, _, rfl, rfl, hrt⟩
   refine hK11 _ _ (zbx hp hrt ?_)
   clear hrt
   refine zbs hp zad hc rfl fun K12 hK12 => ?_
   simp -dsimp -implicitDefEqProofs (disch := first | assumption | omega | (simp [maxLen, zcv] <;> omega) | decide) only [q_r, zau, zb0, zic, ↓reduceIte, List.append_nil, List.replicate_zero, List.replicate_succ, Nat.reduceEqDiff, List.drop_zero, iD, oD, zay, zbr, Nat.reduceAdd, zau, List.length_map, zc2, zbh, zbg, zd4, zmb]
   refine hK12 _ _ (hK7 _ _ ?_)
   refine zbs hp zad hc rfl fun K13 hK13 => ?_
   simp -dsimp -implicitDefEqProofs (disch := first | assumption | omega | (simp [maxLen, zcv] <;> omega) | decide) only [q_r, ↓reduceIte, Nat.reduceEqDiff]
   refine hK13 _ _ ⟨_, _, _, ?_, ⟨k + 1, by omega, rfl, rfl, rfl⟩, ?_⟩
   ·first | omega | (simp only [List.length_cons]; omega) | (dsimp only; omega)
   ·refine Rt.trans (Rt.gc (keep := [0,4]) (by decide) (by decide) (by simp [])) ?_
    refine Rt.end (zaa (zaa (zaa (zaa (zae _) rfl) rfl) rfl) rfl) ?_
    simp only [zay, gcH, zbb, zap, zcb, gcV, za2, zav, List.map_cons, List.map_nil, List.getD_cons_zero, List.getD_cons_succ, zc2, zbh, zbg]; simp [zsy _ _ hlt, hw0, oD]
  refine zab hp zad hc rfl fun K14 hK14 => ?_
  simp -dsimp -implicitDefEqProofs (disch := first | assumption | omega | (simp [maxLen, zcv] <;> omega) | decide) only [q_r, zam, zac, ↓reduceIte, Nat.reduceEqDiff, Nat.reduceAdd, zjq, zci, zcn]
  refine hK14 _ _ ?_
  refine zaq ?_
  refine zab hp zad hc rfl fun K15 hK15 => ?_
  simp -dsimp -implicitDefEqProofs (disch := first | assumption | omega | (simp [maxLen, zcv] <;> omega) | decide) only [q_r, ↓reduceIte]
  refine hK15 _ _ ?_
  refine zag rfl (fun ht => ?_) (fun ht => ?_)
  ·rw [show (nth n.gates k).op = 1 by simpa using ht] at hop
   replace hop : w0 = !x := hop
   refine zbs hp zad hc rfl fun K16 hK16 => ?_
   simp -dsimp -implicitDefEqProofs (disch := first | assumption | omega | (simp [maxLen, zcv] <;> omega) | decide) only [q_r, ↓reduceIte, Nat.reduceEqDiff]
   refine hK16 _ _ (hJ11 _ _ ⟨_, _, rfl, rfl, ?_⟩)
   refine Rt.trans (Rt.gc (keep := [0,1,2]) (by decide) (by decide) (by simp [])) ?_
   refine Rt.end (zaa (zaa (zaa (zaa (zaa (zae _) (by first | rfl | (simp [frL, gcV, oD]; done) | simp [frL, gcV, oD, *])) rfl) rfl) rfl) rfl) ?_
   first | rfl | (simp only [zay, gcH, zbb, zap, zcb, gcV, za2, zav, List.map_cons, List.map_nil, List.getD_cons_zero, List.getD_cons_succ, zc2, zbh, zbg, zd4]; first | done | rfl)
  ·have m1 : (nth n.gates k).op ≠ 1 := by simpa using ht
   refine zab hp zad hc rfl fun K17 hK17 => ?_
   simp -dsimp -implicitDefEqProofs (disch := first | assumption | omega | (simp [maxLen, zcv] <;> omega) | decide) only [q_r, ↓reduceIte, Nat.reduceEqDiff]
   refine hK17 _ _ ?_
   refine zag rfl (fun ht => ?_) (fun ht => ?_)
   ·rw [show (nth n.gates k).op = 2 by simpa using ht] at hop
    replace hop : w0 = (x && y) := hop
    refine zbs hp zad hc rfl fun K18 hK18 => ?_
    cases x
    ·simp -dsimp -implicitDefEqProofs (disch := first | assumption | omega | (simp [maxLen, zcv] <;> omega) | decide) only [q_r, ↓reduceIte, Nat.reduceEqDiff]
     refine hK18 _ _ (hJ11 _ _ ⟨_, _, rfl, rfl, ?_⟩)
     refine Rt.trans (Rt.gc (keep := [0,1,2]) (by decide) (by decide) (by simp [])) ?_
     refine Rt.end (zaa (zaa (zaa (zaa (zaa (zae _) (by first | rfl | (simp [frL, gcV, oD]; done) | simp [frL, gcV, oD, *])) rfl) rfl) rfl) rfl) ?_
     first | rfl | (simp only [zay, gcH, zbb, zap, zcb, gcV, za2, zav, List.map_cons, List.map_nil, List.getD_cons_zero, List.getD_cons_succ, zc2, zbh, zbg, zd4]; first | done | rfl)
    ·simp -dsimp -implicitDefEqProofs (disch := first | assumption | omega | (simp [maxLen, zcv] <;> omega) | decide) only [q_r, ↓reduceIte, Nat.reduceEqDiff]
     refine hK18 _ _ (hJ11 _ _ ⟨_, _, rfl, rfl, ?_⟩)
     refine Rt.trans (Rt.gc (keep := [0,1,2]) (by decide) (by decide) (by simp [])) ?_
     refine Rt.end (zaa (zaa (zaa (zaa (zaa (zae _) (by first | rfl | (simp [frL, gcV, oD]; done) | simp [frL, gcV, oD, *])) rfl) rfl) rfl) rfl) ?_
     first | rfl | (simp only [zay, gcH, zbb, zap, zcb, gcV, za2, zav, List.map_cons, List.map_nil, List.getD_cons_zero, List.getD_cons_succ, zc2, zbh, zbg, zd4]; first | done | rfl)
   ·have m2 : (nth n.gates k).op ≠ 2 := by simpa using ht
    refine zab hp zad hc rfl fun K19 hK19 => ?_
    simp -dsimp -implicitDefEqProofs (disch := first | assumption | omega | (simp [maxLen, zcv] <;> omega) | decide) only [q_r, ↓reduceIte, Nat.reduceEqDiff]
    refine hK19 _ _ ?_
    refine zag rfl (fun ht => ?_) (fun ht => ?_)
    ·rw [show (nth n.gates k).op = 3 by simpa using ht] at hop
     replace hop : w0 = (x || y) := hop
     refine zbs hp zad hc rfl fun K20 hK20 => ?_
     cases x
     ·simp -dsimp -implicitDefEqProofs (disch := first | assumption | omega | (simp [maxLen, zcv] <;> omega) | decide) only [q_r, ↓reduceIte, Nat.reduceEqDiff]
      refine hK20 _ _ (hJ11 _ _ ⟨_, _, rfl, rfl, ?_⟩)
      refine Rt.trans (Rt.gc (keep := [0,1,2]) (by decide) (by decide) (by simp [])) ?_
      refine Rt.end (zaa (zaa (zaa (zaa (zaa (zae _) (by first | rfl | (simp [frL, gcV, oD]; done) | simp [frL, gcV, oD, *])) rfl) rfl) rfl) rfl) ?_
      first | rfl | (simp only [zay, gcH, zbb, zap, zcb, gcV, za2, zav, List.map_cons, List.map_nil, List.getD_cons_zero, List.getD_cons_succ, zc2, zbh, zbg, zd4]; first | done | rfl)
     ·simp -dsimp -implicitDefEqProofs (disch := first | assumption | omega | (simp [maxLen, zcv] <;> omega) | decide) only [q_r, ↓reduceIte, Nat.reduceEqDiff]
      refine hK20 _ _ (hJ11 _ _ ⟨_, _, rfl, rfl, ?_⟩)
      refine Rt.trans (Rt.gc (keep := [0,1,2]) (by decide) (by decide) (by simp [])) ?_
      refine Rt.end (zaa (zaa (zaa (zaa (zaa (zae _) (by first | rfl | (simp [frL, gcV, oD]; done) | simp [frL, gcV, oD, *])) rfl) rfl) rfl) rfl) ?_
      first | rfl | (simp only [zay, gcH, zbb, zap, zcb, gcV, za2, zav, List.map_cons, List.map_nil, List.getD_cons_zero, List.getD_cons_succ, zc2, zbh, zbg, zd4]; first | done | rfl)
    ·have m3 : (nth n.gates k).op ≠ 3 := by simpa using ht
     refine zab hp zad hc rfl fun K21 hK21 => ?_
     simp -dsimp -implicitDefEqProofs (disch := first | assumption | omega | (simp [maxLen, zcv] <;> omega) | decide) only [q_r, ↓reduceIte, Nat.reduceEqDiff]
     refine hK21 _ _ ?_
     refine zag rfl (fun ht => ?_) (fun ht => ?_)
     ·rw [show (nth n.gates k).op = 4 by simpa using ht] at hop
      replace hop : w0 = (x != y) := hop
      refine zbs hp zad hc rfl fun K22 hK22 => ?_
      simp -dsimp -implicitDefEqProofs (disch := first | assumption | omega | (simp [maxLen, zcv] <;> omega) | decide) only [q_r, ↓reduceIte, Nat.reduceEqDiff, jn5]
      refine hK22 _ _ (hJ11 _ _ ⟨_, _, rfl, rfl, ?_⟩)
      refine Rt.trans (Rt.gc (keep := [0,1,2]) (by decide) (by decide) (by simp [])) ?_
      refine Rt.end (zaa (zaa (zaa (zaa (zaa (zae _) (by first | rfl | (simp [frL, gcV, oD]; done) | simp [frL, gcV, oD, *])) rfl) rfl) rfl) rfl) ?_
      first | rfl | (simp only [zay, gcH, zbb, zap, zcb, gcV, za2, zav, List.map_cons, List.map_nil, List.getD_cons_zero, List.getD_cons_succ, zc2, zbh, zbg, zd4]; first | done | rfl)
     ·have m4 : (nth n.gates k).op ≠ 4 := by simpa using ht
      refine zab hp zad hc rfl fun K23 hK23 => ?_
      simp -dsimp -implicitDefEqProofs (disch := first | assumption | omega | (simp [maxLen, zcv] <;> omega) | decide) only [q_r, ↓reduceIte, Nat.reduceEqDiff]
      refine hK23 _ _ ?_
      refine zag rfl (fun ht => ?_) (fun ht => ?_)
      ·rw [show (nth n.gates k).op = 5 by simpa using ht] at hop
       replace hop : w0 = (if x then y else z) := hop
       refine zbs hp zad hc rfl fun K24 hK24 => ?_
       cases x <;> cases y
       ·simp -dsimp -implicitDefEqProofs (disch := first | assumption | omega | (simp [maxLen, zcv] <;> omega) | decide) only [q_r, ↓reduceIte, Nat.reduceEqDiff]
        refine hK24 _ _ (hJ11 _ _ ⟨_, _, rfl, rfl, ?_⟩)
        refine Rt.trans (Rt.gc (keep := [0,1,2]) (by decide) (by decide) (by simp [])) ?_
        refine Rt.end (zaa (zaa (zaa (zaa (zaa (zae _) (by first | rfl | (simp [frL, gcV, oD]; done) | simp [frL, gcV, oD, *])) rfl) rfl) rfl) rfl) ?_
        first | rfl | (simp only [zay, gcH, zbb, zap, zcb, gcV, za2, zav, List.map_cons, List.map_nil, List.getD_cons_zero, List.getD_cons_succ, zc2, zbh, zbg, zd4]; first | done | rfl)
       ·simp -dsimp -implicitDefEqProofs (disch := first | assumption | omega | (simp [maxLen, zcv] <;> omega) | decide) only [q_r, ↓reduceIte, Nat.reduceEqDiff]
        refine hK24 _ _ (hJ11 _ _ ⟨_, _, rfl, rfl, ?_⟩)
        refine Rt.trans (Rt.gc (keep := [0,1,2]) (by decide) (by decide) (by simp [])) ?_
        refine Rt.end (zaa (zaa (zaa (zaa (zaa (zae _) (by first | rfl | (simp [frL, gcV, oD]; done) | simp [frL, gcV, oD, *])) rfl) rfl) rfl) rfl) ?_
        first | rfl | (simp only [zay, gcH, zbb, zap, zcb, gcV, za2, zav, List.map_cons, List.map_nil, List.getD_cons_zero, List.getD_cons_succ, zc2, zbh, zbg, zd4]; first | done | rfl)
       ·simp -dsimp -implicitDefEqProofs (disch := first | assumption | omega | (simp [maxLen, zcv] <;> omega) | decide) only [q_r, ↓reduceIte, Nat.reduceEqDiff]
        refine hK24 _ _ (hJ11 _ _ ⟨_, _, rfl, rfl, ?_⟩)
        refine Rt.trans (Rt.gc (keep := [0,1,2]) (by decide) (by decide) (by simp [])) ?_
        refine Rt.end (zaa (zaa (zaa (zaa (zaa (zae _) (by first | rfl | (simp [frL, gcV, oD]; done) | simp [frL, gcV, oD, *])) rfl) rfl) rfl) rfl) ?_
        first | rfl | (simp only [zay, gcH, zbb, zap, zcb, gcV, za2, zav, List.map_cons, List.map_nil, List.getD_cons_zero, List.getD_cons_succ, zc2, zbh, zbg, zd4]; first | done | rfl)
       ·simp -dsimp -implicitDefEqProofs (disch := first | assumption | omega | (simp [maxLen, zcv] <;> omega) | decide) only [q_r, ↓reduceIte, Nat.reduceEqDiff]
        refine hK24 _ _ (hJ11 _ _ ⟨_, _, rfl, rfl, ?_⟩)
        refine Rt.trans (Rt.gc (keep := [0,1,2]) (by decide) (by decide) (by simp [])) ?_
        refine Rt.end (zaa (zaa (zaa (zaa (zaa (zae _) (by first | rfl | (simp [frL, gcV, oD]; done) | simp [frL, gcV, oD, *])) rfl) rfl) rfl) rfl) ?_
        first | rfl | (simp only [zay, gcH, zbb, zap, zcb, gcV, za2, zav, List.map_cons, List.map_nil, List.getD_cons_zero, List.getD_cons_succ, zc2, zbh, zbg, zd4]; first | done | rfl)
      ·have m5 : (nth n.gates k).op ≠ 5 := by simpa using ht
       refine zab hp zad hc rfl fun K25 hK25 => ?_
       simp -dsimp -implicitDefEqProofs (disch := first | assumption | omega | (simp [maxLen, zcv] <;> omega) | decide) only [q_r, ↓reduceIte, Nat.reduceEqDiff]
       refine hK25 _ _ ?_
       refine zag rfl (fun ht => ?_) (fun ht => ?_)
       ·rw [show (nth n.gates k).op = 6 by simpa using ht] at hop
        replace hop : w0 = (x && (y || z) || y && z) := hop
        refine zbs hp zad hc rfl fun K26 hK26 => ?_
        cases x <;> cases y <;> cases z
        ·simp -dsimp -implicitDefEqProofs (disch := first | assumption | omega | (simp [maxLen, zcv] <;> omega) | decide) only [q_r, ↓reduceIte, Nat.reduceEqDiff]
         refine hK26 _ _ (hJ11 _ _ ⟨_, _, rfl, rfl, ?_⟩)
         refine Rt.trans (Rt.gc (keep := [0,1,2]) (by decide) (by decide) (by simp [])) ?_
         refine Rt.end (zaa (zaa (zaa (zaa (zaa (zae _) (by first | rfl | (simp [frL, gcV, oD]; done) | simp [frL, gcV, oD, *])) rfl) rfl) rfl) rfl) ?_
         first | rfl | (simp only [zay, gcH, zbb, zap, zcb, gcV, za2, zav, List.map_cons, List.map_nil, List.getD_cons_zero, List.getD_cons_succ, zc2, zbh, zbg, zd4]; first | done | rfl)
        ·simp -dsimp -implicitDefEqProofs (disch := first | assumption | omega | (simp [maxLen, zcv] <;> omega) | decide) only [q_r, ↓reduceIte, Nat.reduceEqDiff]
         refine hK26 _ _ (hJ11 _ _ ⟨_, _, rfl, rfl, ?_⟩)
         refine Rt.trans (Rt.gc (keep := [0,1,2]) (by decide) (by decide) (by simp [])) ?_
         refine Rt.end (zaa (zaa (zaa (zaa (zaa (zae _) (by first | rfl | (simp [frL, gcV, oD]; done) | simp [frL, gcV, oD, *])) rfl) rfl) rfl) rfl) ?_
         first | rfl | (simp only [zay, gcH, zbb, zap, zcb, gcV, za2, zav, List.map_cons, List.map_nil, List.getD_cons_zero, List.getD_cons_succ, zc2, zbh, zbg, zd4]; first | done | rfl)
        ·simp -dsimp -implicitDefEqProofs (disch := first | assumption | omega | (simp [maxLen, zcv] <;> omega) | decide) only [q_r, ↓reduceIte, Nat.reduceEqDiff]
         refine hK26 _ _ (hJ11 _ _ ⟨_, _, rfl, rfl, ?_⟩)
         refine Rt.trans (Rt.gc (keep := [0,1,2]) (by decide) (by decide) (by simp [])) ?_
         refine Rt.end (zaa (zaa (zaa (zaa (zaa (zae _) (by first | rfl | (simp [frL, gcV, oD]; done) | simp [frL, gcV, oD, *])) rfl) rfl) rfl) rfl) ?_
         first | rfl | (simp only [zay, gcH, zbb, zap, zcb, gcV, za2, zav, List.map_cons, List.map_nil, List.getD_cons_zero, List.getD_cons_succ, zc2, zbh, zbg, zd4]; first | done | rfl)
        ·simp -dsimp -implicitDefEqProofs (disch := first | assumption | omega | (simp [maxLen, zcv] <;> omega) | decide) only [q_r, ↓reduceIte, Nat.reduceEqDiff]
         refine hK26 _ _ (hJ11 _ _ ⟨_, _, rfl, rfl, ?_⟩)
         refine Rt.trans (Rt.gc (keep := [0,1,2]) (by decide) (by decide) (by simp [])) ?_
         refine Rt.end (zaa (zaa (zaa (zaa (zaa (zae _) (by first | rfl | (simp [frL, gcV, oD]; done) | simp [frL, gcV, oD, *])) rfl) rfl) rfl) rfl) ?_
         first | rfl | (simp only [zay, gcH, zbb, zap, zcb, gcV, za2, zav, List.map_cons, List.map_nil, List.getD_cons_zero, List.getD_cons_succ, zc2, zbh, zbg, zd4]; first | done | rfl)
        ·simp -dsimp -implicitDefEqProofs (disch := first | assumption | omega | (simp [maxLen, zcv] <;> omega) | decide) only [q_r, ↓reduceIte, Nat.reduceEqDiff]
         refine hK26 _ _ (hJ11 _ _ ⟨_, _, rfl, rfl, ?_⟩)
         refine Rt.trans (Rt.gc (keep := [0,1,2]) (by decide) (by decide) (by simp [])) ?_
         refine Rt.end (zaa (zaa (zaa (zaa (zaa (zae _) (by first | rfl | (simp [frL, gcV, oD]; done) | simp [frL, gcV, oD, *])) rfl) rfl) rfl) rfl) ?_
         first | rfl | (simp only [zay, gcH, zbb, zap, zcb, gcV, za2, zav, List.map_cons, List.map_nil, List.getD_cons_zero, List.getD_cons_succ, zc2, zbh, zbg, zd4]; first | done | rfl)
        ·simp -dsimp -implicitDefEqProofs (disch := first | assumption | omega | (simp [maxLen, zcv] <;> omega) | decide) only [q_r, ↓reduceIte, Nat.reduceEqDiff]
         refine hK26 _ _ (hJ11 _ _ ⟨_, _, rfl, rfl, ?_⟩)
         refine Rt.trans (Rt.gc (keep := [0,1,2]) (by decide) (by decide) (by simp [])) ?_
         refine Rt.end (zaa (zaa (zaa (zaa (zaa (zae _) (by first | rfl | (simp [frL, gcV, oD]; done) | simp [frL, gcV, oD, *])) rfl) rfl) rfl) rfl) ?_
         first | rfl | (simp only [zay, gcH, zbb, zap, zcb, gcV, za2, zav, List.map_cons, List.map_nil, List.getD_cons_zero, List.getD_cons_succ, zc2, zbh, zbg, zd4]; first | done | rfl)
        ·simp -dsimp -implicitDefEqProofs (disch := first | assumption | omega | (simp [maxLen, zcv] <;> omega) | decide) only [q_r, ↓reduceIte, Nat.reduceEqDiff]
         refine hK26 _ _ (hJ11 _ _ ⟨_, _, rfl, rfl, ?_⟩)
         refine Rt.trans (Rt.gc (keep := [0,1,2]) (by decide) (by decide) (by simp [])) ?_
         refine Rt.end (zaa (zaa (zaa (zaa (zaa (zae _) (by first | rfl | (simp [frL, gcV, oD]; done) | simp [frL, gcV, oD, *])) rfl) rfl) rfl) rfl) ?_
         first | rfl | (simp only [zay, gcH, zbb, zap, zcb, gcV, za2, zav, List.map_cons, List.map_nil, List.getD_cons_zero, List.getD_cons_succ, zc2, zbh, zbg, zd4]; first | done | rfl)
        ·simp -dsimp -implicitDefEqProofs (disch := first | assumption | omega | (simp [maxLen, zcv] <;> omega) | decide) only [q_r, ↓reduceIte, Nat.reduceEqDiff]
         refine hK26 _ _ (hJ11 _ _ ⟨_, _, rfl, rfl, ?_⟩)
         refine Rt.trans (Rt.gc (keep := [0,1,2]) (by decide) (by decide) (by simp [])) ?_
         refine Rt.end (zaa (zaa (zaa (zaa (zaa (zae _) (by first | rfl | (simp [frL, gcV, oD]; done) | simp [frL, gcV, oD, *])) rfl) rfl) rfl) rfl) ?_
         first | rfl | (simp only [zay, gcH, zbb, zap, zcb, gcV, za2, zav, List.map_cons, List.map_nil, List.getD_cons_zero, List.getD_cons_succ, zc2, zbh, zbg, zd4]; first | done | rfl)
       ·have m6 : (nth n.gates k).op ≠ 6 := by simpa using ht
        refine zab hp zad hc rfl fun K27 hK27 => ?_
        simp -dsimp -implicitDefEqProofs (disch := first | assumption | omega | (simp [maxLen, zcv] <;> omega) | decide) only [q_r, ↓reduceIte, Nat.reduceEqDiff]
        refine hK27 _ _ ?_
        refine zag rfl (fun ht => ?_) (fun ht => ?_)
        ·rw [show (nth n.gates k).op = 7 by simpa using ht] at hop
         replace hop : w0 = zt3 mems (nth n.gates k).n (jh0 x y z) := hop
         refine zvf zad hc mixed rfl (q := 0) (by kernel_rfl) (by kernel_rfl) fun K28 hK28 => ?_
         simp -dsimp -implicitDefEqProofs (disch := first | assumption | omega | (simp [maxLen, zcv] <;> omega) | decide) only [q_r, zam, zac, ↓reduceIte, List.append_nil, List.replicate_zero, Nat.reduceEqDiff, Nat.reduceAdd, zxj, zci, zcn]
         refine zb9 (jf3 x y z) rfl ?_
         simp -dsimp -implicitDefEqProofs (disch := first | assumption | omega | (simp [maxLen, zcv] <;> omega) | decide) only [q_r, ↓reduceIte, Nat.reduceEqDiff, iD, Nat.reduceAdd]
         refine zb9 (jp7 mems (nth n.gates k).n (jh0 x y z) n0 n1 (jo3 x y z).1) rfl ?_
         simp -dsimp -implicitDefEqProofs (disch := first | assumption | omega | (simp [maxLen, zcv] <;> omega) | decide) only [q_r, ↓reduceIte, killAll, oD, Nat.reduceAdd]
         refine hK28 _ _ (hJ11 _ _ ⟨_, _, rfl, rfl, ?_⟩)
         refine Rt.trans (Rt.gc (keep := [0,1,2]) (by decide) (by decide) (by simp [])) ?_
         refine Rt.end (zaa (zaa (zaa (zaa (zaa (zae _) (by first | rfl | (simp [frL, gcV, oD]; done) | simp [frL, gcV, oD, *])) rfl) rfl) rfl) rfl) ?_
         first | rfl | (simp only [zay, gcH, zbb, zap, zcb, gcV, za2, zav, List.map_cons, List.map_nil, List.getD_cons_zero, List.getD_cons_succ, zc2, zbh, zbg, zd4]; first | done | rfl)
        ·have m7 : (nth n.gates k).op ≠ 7 := by simpa using ht
         exfalso
         omega
 ·have hge : k = n.gates.length := by simp at ht; omega
  refine zbd (hK3 _ _ ?_)
  refine zab hp zad hc rfl fun K29 hK29 => ?_
  simp -dsimp -implicitDefEqProofs (disch := first | assumption | omega | (simp [maxLen, zcv] <;> omega) | decide) only [q_r, ↓reduceIte, Nat.reduceEqDiff]
  refine hK29 _ _ ?_
  refine zao ?_
  show zaj _ _ = _
  simp (disch := first | assumption | omega | (simp [maxLen, zcv] <;> omega) | decide) only [zaj, zct, zce, zbt, zbl, zcg, Nat.reduceAdd, Nat.zero_add, zax, zn5, zat, ↓reduceIte, Option.map_some, Option.bind_some, Nat.mul_one, List.getElem?_cons_zero, List.getElem?_cons_succ, List.length_cons, List.length_nil, zas]
  rw [hge, List.take_length]; simp [jce, zg3]; omega
end Go.Proofs.Ytgfnpfchdlcoeaa

/- The reference's tables. -/
set_option linter.unusedVariables false
set_option linter.unusedSimpArgs false
set_option maxRecDepth 100000
set_option maxHeartbeats 4000000
namespace Go.Proofs.Ytgfnpfchdlcoeaa
open Go Go.RowKit
theorem jf5 : (type_of% @zah) ∧ (type_of% @zbe) ∧ (type_of% @zby) ∧ (type_of% @zdt) := ⟨@zah, @zbe, @zby, @zdt⟩
theorem jf6 (n : Net) (sh : Sh) (hnb : NetB n) (hsh : ShOk sh) (hv : zcz n.ins.length sh ≤ 20) : zbi Try.prog 42 [zf1 n, shD sh] (.d (zlt (zoi n sh))) := by
 have hi9 := hnb.i1
 have hg200 := hnb.g1
 obtain ⟨P, hP⟩ : ∃ P, P = 2 ^ zcz n.ins.length sh := ⟨_, rfl⟩
 have hp3 : P ≤ 1048576 := by rw [hP]; exact Nat.le_trans (Nat.pow_le_pow_right (by decide) hv) (show 2 ^ 20 ≤ 1048576 by decide)
 have hu : IntKind.u64.wrap (zcz n.ins.length sh : Int) = zcz n.ins.length sh := zoe (by omega) (by omega)
 have hw : IntKind.i64.wrap (1 * 2 ^ min (zcz n.ins.length sh) 64) = (P : Int) := by rw [hP]; exact zmk (a := 1) (by omega) (by omega) (by omega)
 have hw' : IntKind.i64.wrap (2 ^ min (zcz n.ins.length sh) 64) = (P : Int) := by rw [← hw, Int.one_mul]
 refine za8 (fn := Try.f42) (by kernel_rfl) Try.func42 rfl (Nat.le_of_ble_eq_true rfl) fun c hc hp => ?_
 refine zba (τ' := frL [(0, .d (zf1 n)), (1, .d (shD sh))]) (zaa (zaa (zae _) rfl) rfl) ?_
 refine zab hp zad hc rfl fun K1 hK1 => ?_
 simp -dsimp -implicitDefEqProofs (disch := first | omega | decide) only [q_r, zau, zb0, ↓reduceIte, D.one, zay, zau, zf1, zc2, zbh, zbg, shD]
 refine hK1 _ _ ?_
 refine zab hp zad hc rfl fun K2 hK2 => ?_
 simp -dsimp -implicitDefEqProofs (disch := first | omega | decide) only [q_r, zam, ↓reduceIte, Nat.reduceEqDiff, zf0, zgm]
 refine zb9 (jph n sh hsh (by omega)) rfl ?_
 simp -dsimp -implicitDefEqProofs (disch := first | omega | decide) only [q_r, ↓reduceIte, iD]
 refine hK2 _ _ ?_
 refine zab hp zad hc rfl fun K3 hK3 => ?_
 simp -dsimp -implicitDefEqProofs (disch := first | assumption | omega | (simp [maxLen, jf5] <;> omega) | decide) only [q_r, zam, ↓reduceIte, Nat.reduceEqDiff, zf0, zgm]
 refine zb9 (zug n (by omega) (by omega)) rfl ?_
 simp -dsimp -implicitDefEqProofs (disch := first | assumption | omega | (simp [maxLen, jf5] <;> omega) | decide) only [q_r, zau, ixO, zb0, ↓reduceIte, iD, zau, jod]
 refine hK3 _ _ ?_
 refine zaf fun K4 hK4 => ?_
 refine zab hp zad hc rfl fun K5 hK5 => ?_
 simp -dsimp -implicitDefEqProofs (disch := first | omega | decide) only [q_r]
 refine hK5 _ _ ?_
 refine zaq ?_
 refine za4 hp (fun τ' H' mm => ∃ (i : Nat), (i ≤ P) ∧ mm = P - i ∧ H' = .cells (avs (zc2 n)) :: .cells (hdl 2 (zi4 n sh 0 i)) :: zdq (zi4 n sh 0 i) ∧ τ' = frL [(1, .d (shD sh)), (2, .op 0 0), (5, .d (iD (zcz n.ins.length sh))), (6, .os 1 1 0 (2 + n.ins.length + n.gates.length)), (7, .d (iD i))]) (P) ?_ ⟨0, Nat.zero_le _, rfl, rfl, rfl⟩ ?_
 ·refine Rt.trans (Rt.rows (2 + n.ins.length + n.gates.length)) ?_
  refine Rt.end (zaa (zaa (zaa (zaa (zaa (zae _) rfl) rfl) rfl) rfl) rfl) ?_
  simp only [zay, za2, zav, zc2, zbh, zbg]; rw [jmc]
 rintro τ' H' mm ⟨i, hi, rfl, rfl, rfl⟩
 refine zaf fun K6 hK6 => ?_
 refine zab hp zad hc rfl fun K7 hK7 => ?_
 simp -dsimp -implicitDefEqProofs (disch := first | omega | decide) only [q_r, zf9, ↓reduceIte, Int.toNat_natCast, Nat.reduceEqDiff, iD, zay, zc2, zbh, zbg, shD, hu, hw, zsk, jb7]
 refine hK7 _ _ ?_
 refine zag rfl (fun ht => ?_) (fun ht => ?_)
 ·have hlt : i < P := by simp at ht; omega
  refine zan (hK6 _ _ ?_)
  refine zaf fun K8 hK8 => ?_
  refine zaq ?_
  refine zab hp zad hc rfl fun K9 hK9 => ?_
  simp -dsimp -implicitDefEqProofs (disch := first | omega | decide) only [q_r, ↓reduceIte, Nat.reduceEqDiff]
  refine zb9 (jrz (zcz n.ins.length sh) i (by omega)) rfl ?_
  simp -dsimp -implicitDefEqProofs (disch := first | omega | decide) only [q_r, ↓reduceIte, zas]
  refine hK9 _ _ ?_
  refine zbo zad hc mixed rfl (q := 0) (by kernel_rfl) (by kernel_rfl) fun K10 hK10 => ?_
  simp -dsimp -implicitDefEqProofs (disch := first | omega | decide) only [q_r, zam, ↓reduceIte, List.append_nil, List.replicate_zero, Nat.reduceEqDiff, Nat.reduceAdd, zf0, zgm]
  refine zb9 (jib n (zuh (zcz n.ins.length sh) i) (by simp [zuh]; unfold maxLen; omega) (by omega) (by omega)) rfl ?_
  simp -dsimp -implicitDefEqProofs (disch := first | omega | decide) only [q_r, zam, ↓reduceIte, Nat.reduceEqDiff, zas, Nat.reduceAdd, zf0, zgm]
  refine zb9 (jpj n sh (zuh (zcz n.ins.length sh) i) hsh (by simp [zuh]; unfold maxLen; omega) (by omega)) rfl ?_
  simp -dsimp -implicitDefEqProofs (disch := first | omega | decide) only [q_r, ↓reduceIte, Nat.reduceEqDiff, zbr, Nat.reduceAdd]
  refine zb9 (jf4 n (zq4 n.ins.length (zuh (zcz n.ins.length sh) i)) (zi3 n.ins.length sh (zuh (zcz n.ins.length sh) i)) (by rw [znz]; exact hnb.g2) (by rw [znz]; omega) (by omega)) rfl ?_
  simp -dsimp -implicitDefEqProofs (disch := first | omega | decide) only [q_r, ↓reduceIte, killAll, zas, Nat.reduceAdd]
  have hel := jmb n sh i
  obtain ⟨v, hv⟩ : ∃ v, v = evA n sh i := ⟨_, rfl⟩
  have hv' : jce n.gates (zq4 n.ins.length (zuh (zcz n.ins.length sh) i)) (zi3 n.ins.length sh (zuh (zcz n.ins.length sh) i)) = v := hv.symm
  rw [hv']
  rw [← hv] at hel
  refine hK10 _ _ ?_
  refine zab hp zad hc rfl fun K11 hK11 => ?_
  simp -dsimp -implicitDefEqProofs (disch := first | omega | decide) only [q_r]
  refine hK11 _ _ ?_
  refine zaq ?_
  refine za4 hp (fun τ' H' mm => ∃ (k : Nat), (k ≤ 2 + n.ins.length + n.gates.length) ∧ mm = 2 + n.ins.length + n.gates.length - k ∧ H' = .cells (avs (zc2 n)) :: .cells (hdl 2 (zi4 n sh k i)) :: zdq (zi4 n sh k i) ∧ τ' = frL [(1, .d (shD sh)), (2, .op 0 0), (5, .d (iD (zcz n.ins.length sh))), (6, .os 1 1 0 (2 + n.ins.length + n.gates.length)), (7, .d (iD i)), (9, .d (zas v)), (10, .d (iD k))]) (2 + n.ins.length + n.gates.length) ?_ ⟨0, Nat.zero_le _, rfl, rfl, rfl⟩ ?_
  ·refine Rt.end (zaa (zaa (zaa (zaa (zaa (zaa (zaa (zae _) rfl) rfl) rfl) rfl) rfl) rfl) rfl) ?_
   rfl
  rintro τ' H' mm ⟨k, hk, rfl, rfl, rfl⟩
  refine zaf fun K12 hK12 => ?_
  refine zab hp zad hc rfl fun K13 hK13 => ?_
  simp -dsimp -implicitDefEqProofs (disch := first | omega | decide) only [q_r, zc1, zar, ↓reduceIte, Nat.reduceEqDiff, iD, zay, zas, zc2, zbh, zbg, shD, jb6]
  refine hK13 _ _ ?_
  refine zag rfl (fun ht => ?_) (fun ht => ?_)
  ·have hkl : k < 2 + n.ins.length + n.gates.length := by simp at ht; omega
   have hrl := zzy n sh k i
   have hat : nth (zi4 n sh k i) k = (zwg n sh k i).map oD := by rw [jmd hkl, if_neg (by omega)]
   have hg1 : (hdl 2 (zi4 n sh k i))[k]? = some (.os 1 (k + 2) 0 i) := by rw [jpv (by rw [ziu]; exact hkl), hat, List.length_map, hrl, Nat.add_comm]
   have hg2 : (zdq (zi4 n sh k i))[k]? = some (.cells (avs ((zwg n sh k i).map oD))) := by rw [jik (by rw [ziu]; exact hkl), hat]
   have hg3 : (zdq (zi4 n sh k i)).length = 2 + n.ins.length + n.gates.length := by rw [zqh, ziu]
   have hg4 : (hdl 2 (zi4 n sh k i)).length = 2 + n.ins.length + n.gates.length := by rw [zls, ziu]
   have hA0 : ∀ r : zal, (zdq (zi4 n sh k i) ++ r)[2 + n.ins.length + n.gates.length]? = r[0]? := fun r => jpz hg3
   have hA1 : ∀ r : zal, (zdq (zi4 n sh k i) ++ r)[2 + n.ins.length + n.gates.length + 1]? = r[1]? := fun r => jmf hg3
   have hB0 : ∀ (r : zal) (x : AObj), (zdq (zi4 n sh k i) ++ r).set (2 + n.ins.length + n.gates.length) x = zdq (zi4 n sh k i) ++ r.set 0 x := fun r x => jmg hg3
   have hB1 : ∀ (r : zal) (x : AObj), (zdq (zi4 n sh k i) ++ r).set (2 + n.ins.length + n.gates.length + 1) x = zdq (zi4 n sh k i) ++ r.set 1 x := fun r x => jin hg3
   have hC0 : ∀ r : zal, (zdq (zi4 n sh k i) ++ r)[k]? = some (.cells (avs ((zwg n sh k i).map oD))) := fun r => by rw [List.getElem?_append_left (by omega), hg2]
   have hC1 : ∀ (r : zal) (x : AObj), (zdq (zi4 n sh k i) ++ r).set k x = (zdq (zi4 n sh k i)).set k x ++ r := fun r x => List.set_append_left _ _ (by omega)
   have hb1 : (2 + n.ins.length + n.gates.length + 1 + 1 + 1 != 1) = true := by simp
   have hb2 : (k + 2 != 1) = true := by simp
   have hb3 : (k + 1 ≤ 2 + n.ins.length + n.gates.length) = True := eq_true (by omega)
   obtain ⟨l, hl⟩ : ∃ l, l = (zwg n sh k i).map oD ++ [oD (nth v k)] := ⟨_, rfl⟩
   have hl' : (zwg n sh k i).map oD ++ [D.val (Value.bool (nth v k))] = l := hl.symm
   have hL1 : 2 + n.ins.length + n.gates.length + 1 + 1 + 1 = 3 + (zi4 n sh k i).length := by rw [ziu]; omega
   have hL2 : i + 1 = l.length := by rw [hl, List.length_append, List.length_map, hrl]; rfl
   have hT := jpy (n := n) (sh := sh) (i := i) hkl
   rw [← hv, ← hl] at hT
   refine zan (hK12 _ _ ?_)
   refine zaf fun K14 hK14 => ?_
   refine zaq ?_
   refine zvf zad hc mixed rfl (q := 2) (by kernel_rfl) (by kernel_rfl) fun K15 hK15 => ?_
   simp -dsimp -implicitDefEqProofs (disch := first | assumption | omega | (simp [maxLen, jf5] <;> omega) | decide) only [q_r, zam, ixO, zai, zb0, zc6, zic, za6, ↓reduceIte, List.append_nil, List.replicate_zero, List.replicate_succ, and_true, Int.toNat_natCast, Nat.reduceEqDiff, shB, zqn, killAll, zjb, List.drop_zero, oD, Nat.reduceAdd, List.length_map, zc6, zpe, zll, List.filterMap_nil, hb1, hb2, hb3, hg1, hg3, hg4, hA0, hA1, hB0, hB1, hC0, hC1, jb6, zqz, zq0, ze4, zus, jep, zmb]
   refine hK15 _ _ (hK14 _ _ ?_)
   refine zbs hp zad hc rfl fun K16 hK16 => ?_
   simp -dsimp -implicitDefEqProofs (disch := first | omega | decide) only [q_r, ↓reduceIte, Nat.reduceEqDiff]
   refine hK16 _ _ ⟨_, _, _, ?_, ⟨k + 1, by omega, rfl, rfl, rfl⟩, ?_⟩
   ·first | omega | (simp only [List.length_cons]; omega) | (dsimp only; omega)
   ·refine Rt.lessl (zaa (zaa (zaa (zaa (zaa (zaa (zaa (zae _) rfl) rfl) rfl) rfl) rfl) rfl) rfl) ?_
    refine Rt.trans (Rt.heap (H' := .cells (avs (zc2 n)) :: .cells ((hdl 2 (zi4 n sh k i)).set k (.os 1 (3 + (zi4 n sh k i).length) 0 l.length)) :: ((zdq (zi4 n sh k i)).set k .dead ++ [.dead, .cells (avs l)])) (by rw [hl', hL1, hL2]; rfl)) ?_
    refine Rt.trans (Rt.row (by repeat (first | exact jjz | refine jfy (by first | exact jtg _ | exact jjx _ | exact jjy _ _ _) ?_)) (by rw [ziu]; exact hkl)) ?_
    refine Rt.end (zaa (zaa (zaa (zaa (zaa (zaa (zaa (zae _) rfl) rfl) rfl) rfl) rfl) rfl) rfl) ?_
    simp only [zay, za2, zav, zc2, zbh, zbg]; rw [hT]
  ·have hke : k = 2 + n.ins.length + n.gates.length := by simp at ht; omega
   subst hke
   refine zbd (hK8 _ _ ?_)
   refine zbs hp zad hc rfl fun K17 hK17 => ?_
   simp -dsimp -implicitDefEqProofs (disch := first | omega | decide) only [q_r, ↓reduceIte, Nat.reduceEqDiff]
   refine hK17 _ _ ⟨_, _, _, ?_, ⟨i + 1, by omega, rfl, rfl, rfl⟩, ?_⟩
   ·first | omega | (simp only [List.length_cons]; omega) | (dsimp only; omega)
   ·refine Rt.end (zaa (zaa (zaa (zaa (zaa (zae _) rfl) rfl) rfl) rfl) rfl) ?_
    simp only [zay, za2, zav, zc2, zbh, zbg]; rw [jim]; done
 ·have hie : i = P := by simp at ht; omega
  subst hie
  refine zbd (hK4 _ _ ?_)
  refine zbx hp (τ' := frL [(6, .os 1 1 0 (2 + n.ins.length + n.gates.length))]) (H' := [.cells (avs (zc2 n)), .cells (avs ((zoi n sh).map zas))]) ?_ ?_
  ·refine Rt.trans (Rt.rows_all (by repeat (first | exact jjz | refine jfy (by first | exact jtg _ | exact jjx _ | exact jjy _ _ _) ?_)) (cs := zc2 n)) ?_
   refine Rt.end (zaa (zae _) rfl) ?_
   simp only [zay, za2, zav, zc2, zbh, zbg]; rw [jme n sh _ hP]
  refine zab hp zad hc rfl fun K18 hK18 => ?_
  simp -dsimp -implicitDefEqProofs (disch := first | omega | decide) only [q_r, ↓reduceIte, zay, zc2, zbh, zbg]
  refine hK18 _ _ ?_
  refine zao ?_
  show zaj _ _ = _
  simp (disch := first | omega | decide) only [zaj, zct, zbt, zbl, zcg, Nat.reduceAdd, Nat.zero_add, zbf, zat, ↓reduceIte, Option.bind_some, Nat.mul_one, List.getElem?_cons_zero, List.getElem?_cons_succ, List.length_cons, List.length_nil]
  rw [zax (by simp [zoi])]
  simp only [Option.map_some, Option.bind_some]
  rw [zce, ztm]
  simp [zlt, zoi]
end Go.Proofs.Ytgfnpfchdlcoeaa
