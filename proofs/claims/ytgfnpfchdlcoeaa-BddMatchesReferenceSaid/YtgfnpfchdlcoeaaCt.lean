/- The reference's small functions: equal lists and diagrams, assignments, inputs, memories, shapes. -/
import Derived.Test.YtgfnpfchdlcoeaaQr
import Derived.Test.YtgfnpfchdlcoeaaQ
import Derived.Test.YtgfnpfchdlcoeaaCp
import Derived.Test.YtgfnpfchdlcoeaaDb
set_option linter.unusedVariables false
set_option linter.unusedSimpArgs false
set_option maxRecDepth 100000
set_option maxHeartbeats 4000000
namespace Go.Proofs.Ytgfnpfchdlcoeaa
open Go Go.RowKit
theorem zuf (a b : List Bool) (ha : a.length ≤ maxLen) : zbi Try.prog 29 [zas a, zas b] (.d (oD (decide (a = b)))) := by
 refine za8 (fn := Try.f29) (by kernel_rfl) Try.func29 rfl (Nat.le_of_ble_eq_true rfl) fun c hc hp => ?_
 refine zba (τ' := frL [(0, .d (zas a)), (1, .d (zas b))]) (zaa (zaa (zae _) rfl) rfl) ?_
 unfold maxLen at ha
 refine zab hp zad hc rfl fun K1 hK1 => ?_
 simp -dsimp -implicitDefEqProofs (disch := first | assumption | omega | (simp [maxLen, zah] <;> omega) | decide) only [q_r, zas]
 refine hK1 _ _ ?_
 refine zaf fun K2 hK2 => ?_
 refine zab hp zad hc rfl fun K3 hK3 => ?_
 simp -dsimp -implicitDefEqProofs (disch := first | assumption | omega | (simp [maxLen, zah] <;> omega) | decide) only [q_r, zc1, zar, ↓reduceIte, Nat.reduceEqDiff, ze4]
 refine hK3 _ _ ?_
 refine zag rfl (fun ht => ?_) (fun ht => ?_)
 ·have hne : a ≠ b := fun e => by subst e; simp at ht
  refine zab hp zad hc rfl fun K4 hK4 => ?_
  simp -dsimp -implicitDefEqProofs (disch := first | assumption | omega | (simp [maxLen, zah] <;> omega) | decide) only [q_r]
  refine hK4 _ _ ?_
  refine zao ?_
  show zaj _ _ = _
  simp (disch := first | assumption | omega | (simp [maxLen, zah] <;> omega) | decide) only [zaj, zct, za1, D.fix, zat, ↓reduceIte, Option.map_some, List.length_nil, oD]
  simp [hne]
 ·have hl : a.length = b.length := by simp at ht; omega
  refine zan (hK2 _ _ ?_)
  refine zaf fun K5 hK5 => ?_
  refine zab hp zad hc rfl fun K6 hK6 => ?_
  simp -dsimp -implicitDefEqProofs (disch := first | assumption | omega | (simp [maxLen, zah] <;> omega) | decide) only [q_r]
  refine hK6 _ _ ?_
  refine zaq ?_
  refine za4 hp (fun τ' H' mm => ∃ k, (k ≤ a.length ∧ a.take k = b.take k) ∧ mm = a.length - k ∧ H' = [] ∧ τ' = frL [(5, .d (iD k)), (0, .d (zas a)), (1, .d (zas b))]) (a.length) ?_ ⟨0, ⟨Nat.zero_le _, rfl⟩, rfl, rfl, rfl⟩ ?_
  ·refine Rt.end (zaa (zaa (zaa (zae _) rfl) rfl) rfl) ?_
   first | rfl | (simp only [zay, zas, zbm, zbr, zbp, gcH, zbb, zc7, zc0, zcq, zi5, zap, zcb, gcV, zei, fzH, zen, zdc, zdf, zbw, Nat.reduceAdd, zga, fzV, zcp, za2, zav, List.map_cons, List.map_nil, List.getD_cons_zero, List.getD_cons_succ, ↓reduceIte, Nat.reduceEqDiff, Option.map_some, List.set_cons_zero, List.set_cons_succ, zbf, zax, Nat.mul_one, List.length_map, List.cons_append, List.nil_append]; first | done | rfl)
  rintro τ' H' mm ⟨k, ⟨hk, htake⟩, rfl, rfl, rfl⟩
  refine zaf fun K7 hK7 => ?_
  refine zab hp zad hc rfl fun K8 hK8 => ?_
  simp -dsimp -implicitDefEqProofs (disch := first | assumption | omega | (simp [maxLen, zah] <;> omega) | decide) only [q_r, zc1, zar, ↓reduceIte, Nat.reduceEqDiff, iD, zas, ze4]
  refine hK8 _ _ ?_
  refine zag rfl (fun ht => ?_) (fun ht => ?_)
  ·have hlt : k < a.length := by simp at ht; omega
   have hlt2 : k < b.length := by omega
   refine zan (hK7 _ _ ?_)
   refine zaf fun K9 hK9 => ?_
   refine zaq ?_
   refine zbo zad hc mixed rfl (q := 0) (by kernel_rfl) (by kernel_rfl) fun K10 hK10 => ?_
   simp -dsimp -implicitDefEqProofs (disch := first | assumption | omega | (simp [maxLen, zah] <;> omega) | decide) only [q_r, zam, ixO, zai, ↓reduceIte, List.append_nil, List.replicate_zero, Int.toNat_natCast, Nat.reduceEqDiff, killAll, oD, Nat.reduceAdd, ze4, zus, jep, jn5]
   refine hK10 _ _ ?_
   refine zag rfl (fun ht => ?_) (fun ht => ?_)
   ·have hne : a ≠ b := fun e => by subst e; simp at ht
    refine zab hp zad hc rfl fun K11 hK11 => ?_
    simp -dsimp -implicitDefEqProofs (disch := first | assumption | omega | (simp [maxLen, zah] <;> omega) | decide) only [q_r]
    refine hK11 _ _ ?_
    refine zao ?_
    show zaj _ _ = _
    simp (disch := first | assumption | omega | (simp [maxLen, zah] <;> omega) | decide) only [zaj, zct, za1, D.fix, zat, ↓reduceIte, Option.map_some, List.length_nil, oD]
    simp [hne]
   ·refine zan (hK9 _ _ ?_)
    refine zbs hp zad hc rfl fun K12 hK12 => ?_
    simp -dsimp -implicitDefEqProofs (disch := first | assumption | omega | (simp [maxLen, zah] <;> omega) | decide) only [q_r, ↓reduceIte, Nat.reduceEqDiff]
    refine hK12 _ _ ⟨_, _, _, ?_, ⟨k + 1, ⟨by omega, zg8 hlt hlt2 htake (by simpa using ht)⟩, rfl, rfl, rfl⟩, ?_⟩
    ·first | omega | (simp only [List.length_cons]; omega) | (dsimp only; omega)
    ·refine Rt.end (zaa (zaa (zaa (zae _) rfl) rfl) rfl) ?_
     first | rfl | (simp only [zay, zas, zbm, zbr, zbp, gcH, zbb, zc7, zc0, zcq, zi5, zap, zcb, gcV, zei, fzH, zen, zdc, zdf, zbw, Nat.reduceAdd, zga, fzV, zcp, za2, zav, List.map_cons, List.map_nil, List.getD_cons_zero, List.getD_cons_succ, ↓reduceIte, Nat.reduceEqDiff, Option.map_some, List.set_cons_zero, List.set_cons_succ, zbf, zax, Nat.mul_one, List.length_map, List.cons_append, List.nil_append]; first | done | rfl)
  ·have hge : k = a.length := by simp at ht; omega
   have he : a = b := by rw [hge, List.take_length, hl, List.take_length] at htake; exact htake
   refine zbd (hK5 _ _ ?_)
   refine zab hp zad hc rfl fun K13 hK13 => ?_
   simp -dsimp -implicitDefEqProofs (disch := first | assumption | omega | (simp [maxLen, zah] <;> omega) | decide) only [q_r]
   refine hK13 _ _ ?_
   refine zao ?_
   show zaj _ _ = _
   simp (disch := first | assumption | omega | (simp [maxLen, zah] <;> omega) | decide) only [zaj, zct, za1, D.fix, zat, ↓reduceIte, Option.map_some, List.length_nil, oD]
   simp [he]
theorem jry (l : List Bool) (i : Nat) (hl : l.length ≤ maxLen) (hi : i ≤ 1000000) : zbi Try.prog 48 [zas l, iD i] (.d (oD (atB l i))) := by
 unfold maxLen at hl
 refine za8 (fn := Try.f48) (by kernel_rfl) Try.func48 rfl (Nat.le_of_ble_eq_true rfl) fun c hc hp => ?_
 refine zba (τ' := frL [(0, .d (zas l)), (1, .d (iD i))]) (zaa (zaa (zae _) rfl) rfl) ?_
 refine zab hp zad hc rfl fun K1 hK1 => ?_
 simp -dsimp -implicitDefEqProofs (disch := first | assumption | omega | (simp [maxLen, zah] <;> omega) | decide) only [q_r, iD, zas]
 refine hK1 _ _ ?_
 refine zab hp zad hc rfl fun K2 hK2 => ?_
 by_cases h : i < l.length
 ·have q0 : decide ((0 : Int) ≤ i) = true := by simp
  have q1 : decide ((i : Int) < l.length) = true := by simp; omega
  have hx : atB l i = nth l i := by unfold atB; rw [decide_eq_true h]; rfl
  simp -dsimp -implicitDefEqProofs (disch := first | assumption | omega | (simp [maxLen, zah] <;> omega) | decide) only [q_r, zam, ixO, zai, zc1, zar, ↓reduceIte, Int.toNat_natCast, Nat.reduceEqDiff, oD, q0, q1, ze4, zus, jep]
  refine hK2 _ _ ?_
  refine zao ?_
  show zaj _ _ = _
  simp (disch := first | assumption | omega | (simp [maxLen, zah] <;> omega) | decide) only [zaj, zct, za1, D.fix, zat, ↓reduceIte, Option.map_some, List.length_nil, oD]
  rw [hx]
 ·have q0 : decide ((0 : Int) ≤ i) = true := by simp
  have q1 : decide ((i : Int) < l.length) = false := by simp; omega
  have hx : atB l i = false := by unfold atB; rw [decide_eq_false h]; rfl
  simp -dsimp -implicitDefEqProofs (disch := first | assumption | omega | (simp [maxLen, zah] <;> omega) | decide) only [q_r, zc1, zar, ↓reduceIte, Nat.reduceEqDiff, q0, q1, ze4]
  refine hK2 _ _ ?_
  refine zao ?_
  show zaj _ _ = _
  simp (disch := first | assumption | omega | (simp [maxLen, zah] <;> omega) | decide) only [zaj, zct, za1, D.fix, zat, ↓reduceIte, Option.map_some, List.length_nil, oD]
  rw [hx]
def zq4 (m : Nat) (l : List Bool) : List Bool := (List.range m).map (atB l)
theorem zqb {α : Type} {f : Nat → α} {k : Nat} : (List.range (k + 1)).map f = (List.range k).map f ++ [f k] := by rw [List.range_succ, List.map_append]; rfl
theorem jib (n : Net) (l : List Bool) (hl : l.length ≤ maxLen) (hi : n.ins.length ≤ 1000000) (hg : n.gates.length ≤ 1000000) : zbi Try.prog 35 [zf1 n, zas l] (.d (zas (zq4 n.ins.length l))) := by
 refine za8 (fn := Try.f35) (by kernel_rfl) Try.func35 rfl (Nat.le_of_ble_eq_true rfl) fun c hc hp => ?_
 refine zba (τ' := frL [(0, .d (zf1 n)), (1, .d (zas l))]) (zaa (zaa (zae _) rfl) rfl) ?_
 refine zab hp zad hc rfl fun K1 hK1 => ?_
 simp -dsimp -implicitDefEqProofs (disch := first | assumption | omega | (simp [maxLen, zah, zbe] <;> omega) | decide) only [q_r, zau, zb0, ↓reduceIte, D.one, zay, zas, zau, zf1, zc2, zbh, zbg]
 refine hK1 _ _ ?_
 refine zab hp zad hc rfl fun K2 hK2 => ?_
 simp -dsimp -implicitDefEqProofs (disch := first | assumption | omega | (simp [maxLen, zah, zbe] <;> omega) | decide) only [q_r, zau, zb0, ↓reduceIte, List.replicate_zero, zau, zmb]
 refine hK2 _ _ ?_
 refine zaf fun K3 hK3 => ?_
 refine zab hp zad hc rfl fun K4 hK4 => ?_
 simp -dsimp -implicitDefEqProofs (disch := first | assumption | omega | (simp [maxLen, zah, zbe] <;> omega) | decide) only [q_r]
 refine hK4 _ _ ?_
 refine zaq ?_
 refine za4 hp (fun τ' H' mm => ∃ (k : Nat), (k ≤ n.ins.length) ∧ mm = n.ins.length - k ∧ H' = [.cells (avs (zc2 n)), .cells (avs ((zq4 k l).map oD))] ∧ τ' = frL [(1, .d (zas l)), (2, .op 0 0), (5, .os 1 1 0 k), (6, .d (iD k))]) (n.ins.length) ?_ ⟨0, Nat.zero_le _, rfl, rfl, rfl⟩ ?_
 ·refine Rt.end (zaa (zaa (zaa (zaa (zae _) rfl) rfl) rfl) rfl) ?_
  simp only [zay, za2, zav, zc2, zbh, zbg]; simp; rfl
 rintro τ' H' mm ⟨k, hk, rfl, rfl, rfl⟩
 refine zaf fun K5 hK5 => ?_
 refine zab hp zad hc rfl fun K6 hK6 => ?_
 simp -dsimp -implicitDefEqProofs (disch := first | assumption | omega | (simp [maxLen, zah, zbe] <;> omega) | decide) only [q_r, zam, zac, zc1, zar, ↓reduceIte, Nat.reduceEqDiff, iD, zay, zas, Nat.reduceAdd, zc2, zbh, zbg, zfm, zjo, zjp, zof]
 refine hK6 _ _ ?_
 refine zag rfl (fun ht => ?_) (fun ht => ?_)
 ·have hlt : k < n.ins.length := by simp at ht; omega
  have hlen : (zq4 k l).length = k := by simp [zq4]
  refine zan (hK5 _ _ ?_)
  refine zaf fun K7 hK7 => ?_
  refine zaq ?_
  refine zbs hp zad hc rfl fun K8 hK8 => ?_
  simp -dsimp -implicitDefEqProofs (disch := first | assumption | omega | (simp [maxLen, zah, zbe] <;> omega) | decide) only [q_r, ↓reduceIte, Nat.reduceEqDiff, Nat.reduceAdd]
  refine zb9 (jry l k hl (by omega)) rfl ?_
  simp -dsimp -implicitDefEqProofs (disch := first | assumption | omega | (simp [maxLen, zah, zbe] <;> omega) | decide) only [q_r, zau, zb0, zic, ↓reduceIte, List.append_nil, List.replicate_zero, List.replicate_succ, Nat.reduceEqDiff, List.drop_zero, oD, Nat.reduceAdd, zau, List.length_map, zmb]
  refine hK8 _ _ (hK7 _ _ ?_)
  refine zbs hp zad hc rfl fun K9 hK9 => ?_
  simp -dsimp -implicitDefEqProofs (disch := first | assumption | omega | (simp [maxLen, zah, zbe] <;> omega) | decide) only [q_r, ↓reduceIte, Nat.reduceEqDiff]
  refine hK9 _ _ ⟨_, _, _, ?_, ⟨k + 1, by omega, rfl, rfl, rfl⟩, ?_⟩
  ·first | omega | (simp only [List.length_cons]; omega) | (dsimp only; omega)
  ·refine Rt.trans (Rt.gc (keep := [0,3]) (by decide) (by decide) (by simp [])) ?_
   refine Rt.end (zaa (zaa (zaa (zaa (zae _) rfl) rfl) rfl) rfl) ?_
   simp only [zay, gcH, zbb, zap, zcb, gcV, za2, zav, List.map_cons, List.map_nil, List.getD_cons_zero, List.getD_cons_succ, zc2, zbh, zbg]; simp [zq4, zqb, oD]
 ·have hke : k = n.ins.length := by simp at ht; omega
  subst hke
  have hlen : (zq4 n.ins.length l).length = n.ins.length := by simp [zq4]
  refine zbd (hK3 _ _ ?_)
  refine zab hp zad hc rfl fun K10 hK10 => ?_
  simp -dsimp -implicitDefEqProofs (disch := first | assumption | omega | (simp [maxLen, zah, zbe] <;> omega) | decide) only [q_r, ↓reduceIte, Nat.reduceEqDiff]
  refine hK10 _ _ ?_
  refine zao ?_
  show zaj _ _ = _
  simp (disch := first | assumption | omega | (simp [maxLen, zah, zbe] <;> omega) | decide) only [zaj, zct, zce, zbt, zbl, zcg, Nat.reduceAdd, Nat.zero_add, zax, zn5, zat, ↓reduceIte, Option.map_some, Option.bind_some, Nat.mul_one, List.getElem?_cons_zero, List.getElem?_cons_succ, List.length_cons, List.length_nil, zas]
  simp [hlen]
theorem jfk : (type_of% @zah) ∧ (type_of% @zbe) ∧ (type_of% @zby) := ⟨@zah, @zbe, @zby⟩
theorem zug (n : Net) (hi : n.ins.length ≤ 1000000) (hg : n.gates.length ≤ 1000000) : zbi Try.prog 30 [zf1 n] (.d (iD (2 + n.ins.length + n.gates.length))) := by
 refine za8 (fn := Try.f30) (by kernel_rfl) Try.func30 rfl (Nat.le_of_ble_eq_true rfl) fun c hc hp => ?_
 refine zba (τ' := frL [(0, .d (zf1 n))]) (zaa (zae _) rfl) ?_
 refine zab hp zad hc rfl fun K1 hK1 => ?_
 simp -dsimp -implicitDefEqProofs (disch := first | assumption | omega | (simp [maxLen, jfk] <;> omega) | decide) only [q_r, zau, zb0, ↓reduceIte, D.one, zay, zau, zf1, zc2, zbh, zbg]
 refine hK1 _ _ ?_
 refine zab hp zad hc rfl fun K2 hK2 => ?_
 simp -dsimp -implicitDefEqProofs (disch := first | assumption | omega | (simp [maxLen, jfk] <;> omega) | decide) only [q_r, zam, zac, zc1, zar, ↓reduceIte, Nat.reduceEqDiff, zfm, zjo, zjp, zof, zge, zog, zoh, ztu]
 refine hK2 _ _ ?_
 refine zao ?_
 show zaj _ _ = _
 simp (disch := first | assumption | omega | (simp [maxLen, jfk] <;> omega) | decide) only [zaj, zct, za1, Nat.zero_add, D.fix, zat, ↓reduceIte, Option.map_some, List.length_cons, List.length_nil, iD]
theorem zn8 : (type_of% @zah) ∧ (type_of% @zbe) ∧ (type_of% @zdt) := ⟨@zah, @zbe, @zdt⟩
theorem jph (n : Net) (sh : Sh) (hsh : ShOk sh) (hi : n.ins.length ≤ 1000000) : zbi Try.prog 38 [zf1 n, shD sh] (.d (iD (zcz n.ins.length sh))) := by
 have hs8 := hsh.len
 refine za8 (fn := Try.f38) (by kernel_rfl) Try.func38 rfl (Nat.le_of_ble_eq_true rfl) fun c hc hp => ?_
 refine zba (τ' := frL [(0, .d (zf1 n)), (1, .d (shD sh))]) (zaa (zaa (zae _) rfl) rfl) ?_
 refine zab hp zad hc rfl fun K1 hK1 => ?_
 simp -dsimp -implicitDefEqProofs (disch := first | assumption | omega | (simp [maxLen, zn8] <;> omega) | decide) only [q_r, zau, zb0, ↓reduceIte, D.one, zay, zau, zf1, zc2, zbh, zbg, shD]
 refine hK1 _ _ ?_
 refine zab hp zad hc rfl fun K2 hK2 => ?_
 simp -dsimp -implicitDefEqProofs (disch := first | assumption | omega | (simp [maxLen, zn8] <;> omega) | decide) only [q_r, zam, zac, zc1, zar, ↓reduceIte, Nat.reduceEqDiff, zfm, zjo, zjp, zof]
 refine hK2 _ _ ?_
 refine zaf fun K3 hK3 => ?_
 refine zab hp zad hc rfl fun K4 hK4 => ?_
 simp -dsimp -implicitDefEqProofs (disch := first | assumption | omega | (simp [maxLen, zn8] <;> omega) | decide) only [q_r]
 refine hK4 _ _ ?_
 refine zaq ?_
 refine za4 hp (fun τ' H' mm => ∃ (k : Nat), (k ≤ sh.length) ∧ mm = sh.length - k ∧ H' = [] ∧ τ' = frL [(1, .d (shD sh)), (5, .d (iD (zb1 n.ins.length sh k))), (6, .d (iD k))]) (sh.length) ?_ ⟨0, Nat.zero_le _, rfl, rfl, rfl⟩ ?_
 ·refine Rt.trans (Rt.gc (keep := []) (by decide) (by decide) (by simp [])) ?_
  refine Rt.end (zaa (zaa (zaa (zae _) rfl) rfl) rfl) ?_
  first | rfl | (simp only [zay, zas, zbm, zbr, zbp, gcH, zbb, zc7, zc0, zcq, zi5, zap, zcb, gcV, zei, fzH, zen, zdc, zdf, zbw, Nat.reduceAdd, zga, fzV, zcp, za2, zav, List.map_cons, List.map_nil, List.getD_cons_zero, List.getD_cons_succ, ↓reduceIte, Nat.reduceEqDiff, Option.map_some, List.set_cons_zero, List.set_cons_succ, zbf, zax, Nat.mul_one, List.length_map, List.cons_append, List.nil_append, zf1, zc2, zbh, zbg, shD]; first | done | rfl)
 rintro τ' H' mm ⟨k, hk, rfl, rfl, rfl⟩
 refine zaf fun K5 hK5 => ?_
 refine zab hp zad hc rfl fun K6 hK6 => ?_
 simp -dsimp -implicitDefEqProofs (disch := first | assumption | omega | (simp [maxLen, zn8] <;> omega) | decide) only [q_r, zc1, zar, ↓reduceIte, Nat.reduceEqDiff, iD, shD, zgd]
 refine hK6 _ _ ?_
 refine zag rfl (fun ht => ?_) (fun ht => ?_)
 ·have hlt : k < sh.length := by simp at ht; omega
  have fb := zua (base := n.ins.length) hsh (k := k) (by omega)
  have hel := hsh.el k hlt
  have hib : ((nth sh k).1 : Int) * ((nth sh k).2 : Int) ≤ 64 := by
   have := Nat.mul_le_mul hel.1 hel.2
   omega
  have hib0 : 0 ≤ ((nth sh k).1 : Int) * ((nth sh k).2 : Int) := by
   have : (((nth sh k).1 * (nth sh k).2 : Nat) : Int) = ((nth sh k).1 : Int) * ((nth sh k).2 : Int) := by simp
   omega
  have hfs1 : (zb1 n.ins.length sh (k + 1) : Int) = (zb1 n.ins.length sh k : Int) + ((nth sh k).1 : Int) * ((nth sh k).2 : Int) := by rw [zgv hlt]; simp
  refine zan (hK5 _ _ ?_)
  refine zaf fun K7 hK7 => ?_
  refine zaq ?_
  refine zvf zad hc mixed rfl (q := 0) (by kernel_rfl) (by kernel_rfl) fun K8 hK8 => ?_
  simp -dsimp -implicitDefEqProofs (disch := first | assumption | omega | (simp [maxLen, zn8] <;> omega) | decide) only [q_r, zam, ixO, zai, ↓reduceIte, List.append_nil, List.replicate_zero, Int.toNat_natCast, Nat.reduceEqDiff, killAll, iD, Nat.reduceAdd, Int.toNat_zero, Int.reduceToNat, jrp, jo6, zgd, zlo, zci, zcn]
  refine hK8 _ _ (hK7 _ _ ?_)
  refine zbs hp zad hc rfl fun K9 hK9 => ?_
  simp -dsimp -implicitDefEqProofs (disch := first | assumption | omega | (simp [maxLen, zn8] <;> omega) | decide) only [q_r, ↓reduceIte, Nat.reduceEqDiff]
  refine hK9 _ _ ⟨_, _, _, ?_, ⟨k + 1, by omega, rfl, rfl, rfl⟩, ?_⟩
  ·first | omega | (simp only [List.length_cons]; omega) | (dsimp only; omega)
  ·refine Rt.end (zaa (zaa (zaa (zae _) rfl) (by first | rfl | (simp [frL, iD, hfs1]; done) | simp [Fr.put, frL, gcV, fzV, zcp, iD, bD, uD, oD, zay, zas, zbm, zbr, zbp, zbe, zdt, hfs1, *])) rfl) ?_
   first | rfl | (simp only [zay, zas, zbm, zbr, zbp, gcH, zbb, zc7, zc0, zcq, zi5, zap, zcb, gcV, zei, fzH, zen, zdc, zdf, zbw, Nat.reduceAdd, zga, fzV, zcp, za2, zav, List.map_cons, List.map_nil, List.getD_cons_zero, List.getD_cons_succ, ↓reduceIte, Nat.reduceEqDiff, Option.map_some, List.set_cons_zero, List.set_cons_succ, zbf, zax, Nat.mul_one, List.length_map, List.cons_append, List.nil_append, zf1, zc2, zbh, zbg, shD]; first | done | rfl)
 ·have hke : k = sh.length := by simp at ht; omega
  subst hke
  refine zbd (hK3 _ _ ?_)
  refine zab hp zad hc rfl fun K10 hK10 => ?_
  simp -dsimp -implicitDefEqProofs (disch := first | assumption | omega | (simp [maxLen, zn8] <;> omega) | decide) only [q_r, ↓reduceIte, Nat.reduceEqDiff]
  refine hK10 _ _ ?_
  refine zao ?_
  show zaj _ _ = _
  simp (disch := first | assumption | omega | (simp [maxLen, zn8] <;> omega) | decide) only [zaj, zct, za1, D.fix, zat, ↓reduceIte, Option.map_some, List.length_nil, iD]
  rfl
end Go.Proofs.Ytgfnpfchdlcoeaa

/- The reference's assignments, memories, shapes; equal diagrams. -/
set_option linter.unusedVariables false
set_option linter.unusedSimpArgs false
set_option maxRecDepth 100000
set_option maxHeartbeats 4000000
namespace Go.Proofs.Ytgfnpfchdlcoeaa
open Go Go.RowKit
theorem jic {keep : List Nat} {a : List D} {x : AV} : zcb keep (avs a ++ [x]) = avs a ++ [gcV keep x] := by
 rw [zfg, List.map_append]
 congr 1
 rw [← zfg]; exact zap
theorem jid {id : Nat} {l : List D} {a : List D} {x : AV} : zga id l (avs a ++ [x]) = avs a ++ [fzV id l x] := by
 rw [zfi, List.map_append]
 congr 1
 rw [← zfi]; exact zbw
theorem jpi {id n : Nat} {l : List D} (h : l.length = n) : fzV id l (.os 1 id 0 n) = .d (.fs l n) := ji5 (by rw [Nat.mul_one]; exact zax h)
def zuh (v : Nat) (i : Int) : List Bool := (List.range v).map fun (j : Nat) => jlh i ((v : Int) - 1 - j)
theorem jrz (v : Nat) (i : Int) (hv : v ≤ 1000) : zbi Try.prog 39 [iD v, iD i] (.d (zas (zuh v i))) := by
 refine za8 (fn := Try.f39) (by kernel_rfl) Try.func39 rfl (Nat.le_of_ble_eq_true rfl) fun c hc hp => ?_
 refine zba (τ' := frL [(0, .d (iD v)), (1, .d (iD i))]) (zaa (zaa (zae _) rfl) rfl) ?_
 refine zab hp zad hc rfl fun K1 hK1 => ?_
 simp -dsimp -implicitDefEqProofs (disch := first | assumption | omega | (simp [maxLen, zah] <;> omega) | decide) only [q_r, iD]
 refine hK1 _ _ ?_
 refine zab hp zad hc rfl fun K2 hK2 => ?_
 simp -dsimp -implicitDefEqProofs (disch := first | assumption | omega | (simp [maxLen, zah] <;> omega) | decide) only [q_r, zau, zb0, ↓reduceIte, List.replicate_zero, zau, zmb]
 refine hK2 _ _ ?_
 refine zaf fun K3 hK3 => ?_
 refine zab hp zad hc rfl fun K4 hK4 => ?_
 simp -dsimp -implicitDefEqProofs (disch := first | assumption | omega | (simp [maxLen, zah] <;> omega) | decide) only [q_r, ↓reduceIte, Nat.reduceEqDiff]
 refine hK4 _ _ ?_
 refine zaq ?_
 refine za4 hp (fun τ' H' mm => ∃ (r : Nat), (r ≤ v) ∧ mm = v - r ∧ H' = [.cells (avs (((List.range r).map fun (j : Nat) => jlh i ((v : Int) - 1 - j)).map oD))] ∧ τ' = frL [(1, .d (iD i)), (5, .os 1 0 0 r), (6, .d (iD ((v : Int) - 1 - r)))]) (v) ?_ ⟨0, Nat.zero_le _, rfl, rfl, rfl⟩ ?_
 ·refine Rt.end (zaa (zaa (zaa (zae _) (by first | rfl | (simp [frL, iD]; done) | simp [Fr.put, frL, gcV, fzV, zcp, iD, bD, uD, oD, zay, zas, zbm, zbr, zbp, Int.sub_sub, Int.add_assoc, *])) rfl) rfl) ?_
  first | rfl | (simp only [zay, zas, zbm, zbr, zbp, gcH, zbb, zc7, zc0, zcq, zi5, zap, zcb, gcV, zei, fzH, zen, zdc, zdf, zbw, Nat.reduceAdd, zga, fzV, zcp, za2, zav, List.map_cons, List.map_nil, List.getD_cons_zero, List.getD_cons_succ, ↓reduceIte, Nat.reduceEqDiff, Option.map_some, List.set_cons_zero, List.set_cons_succ, zbf, zax, Nat.mul_one, List.length_map, List.cons_append, List.nil_append]; first | done | rfl)
 rintro τ' H' mm ⟨r, hr, rfl, rfl, rfl⟩
 refine zaf fun K5 hK5 => ?_
 refine zab hp zad hc rfl fun K6 hK6 => ?_
 simp -dsimp -implicitDefEqProofs (disch := first | assumption | omega | (simp [maxLen, zah] <;> omega) | decide) only [q_r, ↓reduceIte, Nat.reduceEqDiff, iD]
 refine hK6 _ _ ?_
 refine zag rfl (fun ht => ?_) (fun ht => ?_)
 ·have hlt : r < v := by simp at ht; omega
  refine zan (hK5 _ _ ?_)
  refine zaf fun K7 hK7 => ?_
  refine zaq ?_
  refine zbs hp zad hc rfl fun K8 hK8 => ?_
  simp -dsimp -implicitDefEqProofs (disch := first | assumption | omega | (simp [maxLen, zah] <;> omega) | decide) only [q_r, zau, zf9, zb0, zic, ↓reduceIte, List.append_nil, List.replicate_zero, List.replicate_succ, Nat.reduceEqDiff, List.drop_zero, Nat.reduceAdd, zau, List.length_map, zsk, jb7, zmb]
  refine hK8 _ _ (hK7 _ _ ?_)
  refine zbs hp zad hc rfl fun K9 hK9 => ?_
  simp -dsimp -implicitDefEqProofs (disch := first | assumption | omega | (simp [maxLen, zah] <;> omega) | decide) only [q_r, ↓reduceIte, Nat.reduceEqDiff]
  refine hK9 _ _ ⟨_, _, _, ?_, ⟨r + 1, by omega, rfl, rfl, rfl⟩, ?_⟩
  ·first | omega | (simp only [List.length_cons]; omega) | (dsimp only; omega)
  ·refine Rt.trans (Rt.gc (keep := [2]) (by decide) (by decide) (by simp [])) ?_
   refine Rt.end (zaa (zaa (zaa (zae _) (by first | rfl | (simp [frL, gcV, iD, Int.sub_sub, Int.add_assoc]; done) | simp [Fr.put, frL, gcV, fzV, zcp, iD, bD, uD, oD, zay, zas, zbm, zbr, zbp, Int.sub_sub, Int.add_assoc, *])) rfl) rfl) ?_
   simp only [gcH, zbb, zap, List.map_cons, List.map_nil, List.getD_cons_zero, List.getD_cons_succ]; rw [zqb]; simp [jlh, oD]
 ·have hke : r = v := by simp at ht; omega
  have hal : (zuh v i).length = v := by simp [zuh]
  refine zbd (hK3 _ _ ?_)
  refine zab hp zad hc rfl fun K10 hK10 => ?_
  simp -dsimp -implicitDefEqProofs (disch := first | assumption | omega | (simp [maxLen, zah] <;> omega) | decide) only [q_r, ↓reduceIte, Nat.reduceEqDiff]
  refine hK10 _ _ ?_
  refine zao ?_
  show zaj _ _ = _
  simp (disch := first | assumption | omega | (simp [maxLen, zah] <;> omega) | decide) only [zaj, zct, zce, zbt, zbl, zcg, Nat.zero_add, zax, zn5, zat, ↓reduceIte, Option.map_some, Option.bind_some, Nat.mul_one, List.getElem?_cons_zero, List.length_cons, List.length_nil, zas]
  subst hke
  simp [zuh]
def zuv (l : List Bool) (base : Nat) : Nat → Nat
 | 0 => 0
 | b + 1 => zuv l base b + if atB l (base + b) then 2 ^ b else 0
theorem zzr (l : List Bool) (base : Nat) : ∀ b, zuv l base b < 2 ^ b
 | 0 => by simp [zuv]
 | b + 1 => by
  have := zzr l base b
  have e : 2 ^ (b + 1) = 2 ^ b + 2 ^ b := by rw [Nat.pow_succ]; omega
  unfold zuv
  split <;> omega
def jie (l : List Bool) (base : Nat) (p : Nat × Nat) : List Int := (List.range p.1).map fun j => (zuv l (base + j * p.2) p.2 : Nat)
def zi3 (base : Nat) (sh : Sh) (l : List Bool) : List (List Int) := (List.range sh.length).map fun i => jie l (zb1 base sh i) (nth sh i)
theorem zec : (type_of% @zah) ∧ (type_of% @zbe) ∧ (type_of% @zdt) := ⟨@zah, @zbe, @zdt⟩
theorem jpj (n : Net) (sh : Sh) (l : List Bool) (hsh : ShOk sh) (hl : l.length ≤ maxLen) (hi : n.ins.length ≤ 10000) : zbi Try.prog 36 [zf1 n, shD sh, zas l] (.d (zbr (zi3 n.ins.length sh l))) := by
 have hs8 := hsh.len
 refine za8 (fn := Try.f36) (by kernel_rfl) Try.func36 rfl (Nat.le_of_ble_eq_true rfl) fun c hc hp => ?_
 refine zba (τ' := frL [(0, .d (zf1 n)), (1, .d (shD sh)), (2, .d (zas l))]) (zaa (zaa (zaa (zae _) rfl) rfl) rfl) ?_
 refine zab hp zad hc rfl fun K1 hK1 => ?_
 simp -dsimp -implicitDefEqProofs (disch := first | assumption | omega | (simp [maxLen, zec] <;> omega) | decide) only [q_r, zau, zb0, ↓reduceIte, D.one, zay, zas, zau, zf1, zc2, zbh, zbg, shD]
 refine hK1 _ _ ?_
 refine zab hp zad hc rfl fun K2 hK2 => ?_
 simp -dsimp -implicitDefEqProofs (disch := first | assumption | omega | (simp [maxLen, zec] <;> omega) | decide) only [q_r, zau, zb0, ↓reduceIte, List.replicate_zero, zau, joa]
 refine hK2 _ _ ?_
 refine zab hp zad hc rfl fun K3 hK3 => ?_
 simp -dsimp -implicitDefEqProofs (disch := first | assumption | omega | (simp [maxLen, zec] <;> omega) | decide) only [q_r, zam, zac, zc1, zar, ↓reduceIte, Nat.reduceEqDiff, Nat.reduceAdd, zfm, zjo, zjp, zof]
 refine hK3 _ _ ?_
 refine zaf fun K4 hK4 => ?_
 refine zab hp zad hc rfl fun K5 hK5 => ?_
 simp -dsimp -implicitDefEqProofs (disch := first | assumption | omega | (simp [maxLen, zec] <;> omega) | decide) only [q_r]
 refine hK5 _ _ ?_
 refine zaq ?_
 refine za4 hp (fun τ' H' mm => ∃ (k : Nat), (k ≤ sh.length) ∧ mm = sh.length - k ∧ H' = [.cells (avs (((List.range k).map fun i => jie l (zb1 n.ins.length sh i) (nth sh i)).map zay))] ∧ τ' = frL [(1, .d (shD sh)), (2, .d (zas l)), (7, .os 1 0 0 k), (8, .d (iD (zb1 n.ins.length sh k))), (9, .d (iD k))]) (sh.length) ?_ ⟨0, Nat.zero_le _, rfl, rfl, rfl⟩ ?_
 ·refine Rt.trans (Rt.gc (keep := [1]) (by decide) (by decide) (by simp [])) ?_
  refine Rt.end (zaa (zaa (zaa (zaa (zaa (zae _) rfl) rfl) rfl) rfl) rfl) ?_
  simp only [gcH, zbb, zcb, List.map_cons, List.map_nil, List.getD_cons_zero, List.getD_cons_succ]; simp; rfl
 rintro τ' H' mm ⟨k, hk, rfl, rfl, rfl⟩
 refine zaf fun K6 hK6 => ?_
 refine zab hp zad hc rfl fun K7 hK7 => ?_
 simp -dsimp -implicitDefEqProofs (disch := first | assumption | omega | (simp [maxLen, zec] <;> omega) | decide) only [q_r, zc1, zar, ↓reduceIte, Nat.reduceEqDiff, iD, zas, shD, zgd]
 refine hK7 _ _ ?_
 refine zag rfl (fun ht => ?_) (fun ht => ?_)
 ·have hlt : k < sh.length := by simp at ht; omega
  have fb := zua (base := n.ins.length) hsh (k := k) (by omega)
  have hel := hsh.el k hlt
  have hmm := Nat.mul_le_mul hel.1 hel.2
  refine zan (hK6 _ _ ?_)
  refine zaf fun K8 hK8 => ?_
  refine zaq ?_
  refine zab hp zad hc rfl fun K9 hK9 => ?_
  simp -dsimp -implicitDefEqProofs (disch := first | assumption | omega | (simp [maxLen, zec] <;> omega) | decide) only [q_r, zau, zb0, ↓reduceIte, List.replicate_zero, zau, zgb]
  refine hK9 _ _ ?_
  refine zaf fun K10 hK10 => ?_
  refine zab hp zad hc rfl fun K11 hK11 => ?_
  simp -dsimp -implicitDefEqProofs (disch := first | assumption | omega | (simp [maxLen, zec] <;> omega) | decide) only [q_r]
  refine hK11 _ _ ?_
  refine zaq ?_
  refine za4 hp (fun τ' H' mm => ∃ (j : Nat), (j ≤ (nth sh k).1) ∧ mm = (nth sh k).1 - j ∧ H' = [.cells (avs (((List.range k).map fun i => jie l (zb1 n.ins.length sh i) (nth sh i)).map zay)), .cells (avs (((List.range j).map fun j => ((zuv l (zb1 n.ins.length sh k + j * (nth sh k).2) (nth sh k).2 : Nat) : Int)).map iD))] ∧ τ' = frL [(1, .d (shD sh)), (2, .d (zas l)), (7, .os 1 0 0 k), (8, .d (iD ((zb1 n.ins.length sh k + j * (nth sh k).2 : Nat) : Int))), (9, .d (iD k)), (10, .os 1 1 0 j), (11, .d (iD j))]) ((nth sh k).1) ?_ ⟨0, Nat.zero_le _, rfl, rfl, rfl⟩ ?_
  ·refine Rt.end (zaa (zaa (zaa (zaa (zaa (zaa (zaa (zae _) rfl) rfl) rfl) (by first | rfl | (simp [frL, iD]; done) | simp [Fr.put, frL, gcV, fzV, zcp, iD, bD, uD, oD, zay, zas, zbm, zbr, zbp, zbe, zdt, Int.add_assoc, *])) rfl) rfl) rfl) ?_
   first | rfl | (simp only [zay, zas, zbm, zbr, zbp, gcH, zbb, zc7, zc0, zcq, zi5, zap, zcb, gcV, zei, fzH, zen, zdc, zdf, zbw, Nat.reduceAdd, zga, fzV, zcp, za2, zav, List.map_cons, List.map_nil, List.getD_cons_zero, List.getD_cons_succ, ↓reduceIte, Nat.reduceEqDiff, Option.map_some, List.set_cons_zero, List.set_cons_succ, zbf, zax, Nat.mul_one, List.length_map, List.cons_append, List.nil_append, zf1, zc2, zbh, zbg, shD]; first | done | rfl)
  rintro τ' H' mm ⟨j, hj, rfl, rfl, rfl⟩
  refine zaf fun K12 hK12 => ?_
  refine zab hp zad hc rfl fun K13 hK13 => ?_
  simp -dsimp -implicitDefEqProofs (disch := first | assumption | omega | (simp [maxLen, zec] <;> omega) | decide) only [q_r, zam, ixO, zai, ↓reduceIte, Int.toNat_natCast, Nat.reduceEqDiff, iD, zas, Int.toNat_zero, shD, jrp, zgd, zlo, zci, zcn]
  refine hK13 _ _ ?_
  refine zag rfl (fun ht => ?_) (fun ht => ?_)
  ·have hjl : j < (nth sh k).1 := by simp at ht; omega
   have hjb := Nat.mul_le_mul (Nat.le_of_lt hjl) hel.2
   refine zan (hK12 _ _ ?_)
   refine zaf fun K14 hK14 => ?_
   refine zaq ?_
   refine zab hp zad hc rfl fun K15 hK15 => ?_
   simp -dsimp -implicitDefEqProofs (disch := first | assumption | omega | (simp [maxLen, zec] <;> omega) | decide) only [q_r]
   refine hK15 _ _ ?_
   refine zaf fun K16 hK16 => ?_
   refine zab hp zad hc rfl fun K17 hK17 => ?_
   simp -dsimp -implicitDefEqProofs (disch := first | assumption | omega | (simp [maxLen, zec] <;> omega) | decide) only [q_r]
   refine hK17 _ _ ?_
   refine zaq ?_
   refine za4 hp (fun τ' H' mm => ∃ (b : Nat), (b ≤ (nth sh k).2) ∧ mm = (nth sh k).2 - b ∧ H' = [.cells (avs (((List.range k).map fun i => jie l (zb1 n.ins.length sh i) (nth sh i)).map zay)), .cells (avs (((List.range j).map fun j => ((zuv l (zb1 n.ins.length sh k + j * (nth sh k).2) (nth sh k).2 : Nat) : Int)).map iD))] ∧ τ' = frL [(1, .d (shD sh)), (2, .d (zas l)), (7, .os 1 0 0 k), (8, .d (iD ((zb1 n.ins.length sh k + j * (nth sh k).2 + b : Nat) : Int))), (9, .d (iD k)), (10, .os 1 1 0 j), (11, .d (iD j)), (12, .d (iD (zuv l (zb1 n.ins.length sh k + j * (nth sh k).2) b : Nat))), (13, .d (iD b))]) ((nth sh k).2) ?_ ⟨0, Nat.zero_le _, rfl, rfl, rfl⟩ ?_
   ·refine Rt.end (zaa (zaa (zaa (zaa (zaa (zaa (zaa (zaa (zaa (zae _) rfl) rfl) rfl) rfl) rfl) rfl) rfl) rfl) rfl) ?_
    first | rfl | (simp only [zay, zas, zbm, zbr, zbp, gcH, zbb, zc7, zc0, zcq, zi5, zap, zcb, gcV, zei, fzH, zen, zdc, zdf, zbw, Nat.reduceAdd, zga, fzV, zcp, za2, zav, List.map_cons, List.map_nil, List.getD_cons_zero, List.getD_cons_succ, ↓reduceIte, Nat.reduceEqDiff, Option.map_some, List.set_cons_zero, List.set_cons_succ, zbf, zax, Nat.mul_one, List.length_map, List.cons_append, List.nil_append, zf1, zc2, zbh, zbg, shD]; first | done | rfl)
   rintro τ' H' mm ⟨b, hb, rfl, rfl, rfl⟩
   refine zaf fun K18 hK18 => ?_
   refine zab hp zad hc rfl fun K19 hK19 => ?_
   simp -dsimp -implicitDefEqProofs (disch := first | assumption | omega | (simp [maxLen, zec] <;> omega) | decide) only [q_r, zam, ixO, zai, ↓reduceIte, Int.toNat_natCast, Nat.reduceEqDiff, iD, zas, Int.reduceToNat, shD, jo6, zgd, zlo, zci, zcn]
   refine hK19 _ _ ?_
   refine zag rfl (fun ht => ?_) (fun ht => ?_)
   ·have hbl : b < (nth sh k).2 := by simp at ht; omega
    refine zan (hK18 _ _ ?_)
    refine zaf fun K20 hK20 => ?_
    refine zaq ?_
    refine zaf fun K21 hK21 => ?_
    refine zab hp zad hc rfl fun K22 hK22 => ?_
    simp -dsimp -implicitDefEqProofs (disch := first | assumption | omega | (simp [maxLen, zec] <;> omega) | decide) only [q_r, ↓reduceIte, Nat.reduceEqDiff, Nat.reduceAdd]
    have hb8 : b < 8 := by omega
    have hp2 : 2 ^ b ≤ 128 := by have : (2 : Nat) ^ b ≤ 2 ^ 7 := Nat.pow_le_pow_right (by decide) (by omega); omega
    have hwl := zzr l (zb1 n.ins.length sh k + j * (nth sh k).2) b
    have hw : IntKind.i64.wrap (1 * 2 ^ min b 64) = ((2 ^ b : Nat) : Int) := zmk (a := 1) (by omega) (by omega) (by omega)
    have hu : IntKind.u64.wrap (b : Int) = b := zoe (by omega) (by omega)
    refine zb9 (jry l (zb1 n.ins.length sh k + j * (nth sh k).2 + b) hl (by omega)) rfl ?_
    simp -dsimp -implicitDefEqProofs (disch := first | assumption | omega | (simp [maxLen, zec] <;> omega) | decide) only [q_r, oD]
    refine hK22 _ _ ?_
    refine zag rfl (fun ht => ?_) (fun ht => ?_)
    ·have hw1 : ((zuv l (zb1 n.ins.length sh k + j * (nth sh k).2) (b + 1) : Nat) : Int) = (zuv l (zb1 n.ins.length sh k + j * (nth sh k).2) b : Nat) + ((2 ^ b : Nat) : Int) := by rw [zuv, if_pos ht]; push_cast; rfl
     refine zbs hp zad hc rfl fun K23 hK23 => ?_
     simp -dsimp -implicitDefEqProofs (disch := first | assumption | omega | (simp [maxLen, zec] <;> omega) | decide) only [q_r, zf9, ↓reduceIte, Int.toNat_natCast, Nat.reduceEqDiff, hu, hw, zsk, jb7]
     refine hK23 _ _ (hK21 _ _ ?_)
     refine zbs hp zad hc rfl fun K24 hK24 => ?_
     simp -dsimp -implicitDefEqProofs (disch := first | assumption | omega | (simp [maxLen, zec] <;> omega) | decide) only [q_r, ↓reduceIte, Nat.reduceEqDiff]
     refine hK24 _ _ (hK20 _ _ ?_)
     refine zbs hp zad hc rfl fun K25 hK25 => ?_
     simp -dsimp -implicitDefEqProofs (disch := first | assumption | omega | (simp [maxLen, zec] <;> omega) | decide) only [q_r, ↓reduceIte, Nat.reduceEqDiff]
     refine hK25 _ _ ⟨_, _, _, ?_, ⟨b + 1, by omega, rfl, rfl, rfl⟩, ?_⟩
     ·first | omega | (simp only [List.length_cons]; omega) | (dsimp only; omega)
     ·refine Rt.end (zaa (zaa (zaa (zaa (zaa (zaa (zaa (zaa (zaa (zae _) rfl) (by first | rfl | (simp [frL, iD]; done) | simp [frL, iD, *])) rfl) rfl) rfl) rfl) rfl) rfl) rfl) ?_
      first | rfl | (simp only [zay, zas, zbm, zbr, zbp, gcH, zbb, zc7, zc0, zcq, zi5, zap, zcb, gcV, zei, fzH, zen, zdc, zdf, zbw, Nat.reduceAdd, zga, fzV, zcp, za2, zav, List.map_cons, List.map_nil, List.getD_cons_zero, List.getD_cons_succ, ↓reduceIte, Nat.reduceEqDiff, Option.map_some, List.set_cons_zero, List.set_cons_succ, zbf, zax, Nat.mul_one, List.length_map, List.cons_append, List.nil_append, zf1, zc2, zbh, zbg, shD]; first | done | rfl)
    ·have hw1 : zuv l (zb1 n.ins.length sh k + j * (nth sh k).2) (b + 1) = zuv l (zb1 n.ins.length sh k + j * (nth sh k).2) b := by rw [zuv, if_neg (by rw [ht]; decide)]; rfl
     refine zan (hK21 _ _ ?_)
     refine zbs hp zad hc rfl fun K26 hK26 => ?_
     simp -dsimp -implicitDefEqProofs (disch := first | assumption | omega | (simp [maxLen, zec] <;> omega) | decide) only [q_r, ↓reduceIte, Nat.reduceEqDiff]
     refine hK26 _ _ (hK20 _ _ ?_)
     refine zbs hp zad hc rfl fun K27 hK27 => ?_
     simp -dsimp -implicitDefEqProofs (disch := first | assumption | omega | (simp [maxLen, zec] <;> omega) | decide) only [q_r, ↓reduceIte, Nat.reduceEqDiff]
     refine hK27 _ _ ⟨_, _, _, ?_, ⟨b + 1, by omega, rfl, rfl, rfl⟩, ?_⟩
     ·first | omega | (simp only [List.length_cons]; omega) | (dsimp only; omega)
     ·refine Rt.end (zaa (zaa (zaa (zaa (zaa (zaa (zaa (zaa (zaa (zae _) rfl) (by first | rfl | (simp [frL, iD]; done) | simp [frL, iD, *])) rfl) rfl) rfl) rfl) rfl) rfl) rfl) ?_
      first | rfl | (simp only [zay, zas, zbm, zbr, zbp, gcH, zbb, zc7, zc0, zcq, zi5, zap, zcb, gcV, zei, fzH, zen, zdc, zdf, zbw, Nat.reduceAdd, zga, fzV, zcp, za2, zav, List.map_cons, List.map_nil, List.getD_cons_zero, List.getD_cons_succ, ↓reduceIte, Nat.reduceEqDiff, Option.map_some, List.set_cons_zero, List.set_cons_succ, zbf, zax, Nat.mul_one, List.length_map, List.cons_append, List.nil_append, zf1, zc2, zbh, zbg, shD]; first | done | rfl)
   ·have hbe : b = (nth sh k).2 := by simp at ht; omega
    have hs1 : zb1 n.ins.length sh k + (j + 1) * (nth sh k).2 = zb1 n.ins.length sh k + j * (nth sh k).2 + (nth sh k).2 := by rw [Nat.succ_mul]; omega
    refine zbd (hK16 _ _ ?_)
    refine zbs hp zad hc rfl fun K28 hK28 => ?_
    simp -dsimp -implicitDefEqProofs (disch := first | assumption | omega | (simp [maxLen, zec] <;> omega) | decide) only [q_r, zau, zb0, zic, ↓reduceIte, List.append_nil, List.replicate_zero, List.replicate_succ, Nat.reduceEqDiff, List.drop_zero, Nat.reduceAdd, zau, List.length_map, zgb]
    refine hK28 _ _ (hK14 _ _ ?_)
    refine zbs hp zad hc rfl fun K29 hK29 => ?_
    simp -dsimp -implicitDefEqProofs (disch := first | assumption | omega | (simp [maxLen, zec] <;> omega) | decide) only [q_r, ↓reduceIte, Nat.reduceEqDiff]
    refine hK29 _ _ ⟨_, _, _, ?_, ⟨j + 1, by omega, rfl, rfl, rfl⟩, ?_⟩
    ·first | omega | (simp only [List.length_cons]; omega) | (dsimp only; omega)
    ·refine Rt.trans (Rt.gc (keep := [0,3]) (by decide) (by decide) (by simp [])) ?_
     refine Rt.end (zaa (zaa (zaa (zaa (zaa (zaa (zaa (zae _) rfl) rfl) rfl) (by first | rfl | (simp [frL, gcV, iD, Int.add_assoc]; done) | simp [frL, gcV, iD, Int.add_assoc, *])) rfl) rfl) rfl) ?_
     simp only [gcH, zbb, zap, List.map_cons, List.map_nil, List.getD_cons_zero, List.getD_cons_succ]; rw [zqb, hbe]; simp [iD]
  ·have hje : j = (nth sh k).1 := by simp at ht; omega
   have hs1 : zb1 n.ins.length sh (k + 1) = zb1 n.ins.length sh k + j * (nth sh k).2 := by rw [zgv hlt, hje]
   refine zbd (hK10 _ _ ?_)
   refine zbs hp zad hc rfl fun K30 hK30 => ?_
   simp -dsimp -implicitDefEqProofs (disch := first | assumption | omega | (simp [maxLen, zec] <;> omega) | decide) only [q_r, zau, zb0, zic, ↓reduceIte, List.replicate_zero, List.replicate_succ, Nat.reduceEqDiff, List.drop_zero, Nat.reduceAdd, zau, List.length_map, joa]
   refine hK30 _ _ (hK8 _ _ ?_)
   refine zbs hp zad hc rfl fun K31 hK31 => ?_
   simp -dsimp -implicitDefEqProofs (disch := first | assumption | omega | (simp [maxLen, zec] <;> omega) | decide) only [q_r, ↓reduceIte, Nat.reduceEqDiff]
   refine hK31 _ _ ⟨_, _, _, ?_, ⟨k + 1, by omega, rfl, rfl, rfl⟩, ?_⟩
   ·first | omega | (simp only [List.length_cons]; omega) | (dsimp only; omega)
   ·refine Rt.trans (Rt.fz (id := 1) rfl) ?_
    refine Rt.trans (Rt.gc (keep := [3]) (by decide) (by decide) (by simp [fzH])) ?_
    refine Rt.end (zaa (zaa (zaa (zaa (zaa (zae _) rfl) (by first | rfl | (simp [frL, gcV, fzV, iD]; done) | simp [frL, gcV, fzV, iD, *])) rfl) rfl) rfl) ?_
    simp only [gcH, zbb, fzH, zen, zdc, zga, fzV, List.map_cons, List.map_nil, List.getD_cons_zero, List.getD_cons_succ, ↓reduceIte, List.set_cons_zero, List.set_cons_succ, Nat.mul_one]; rw [zqb]; simp only [jid, jic, jie, hje, zay, List.map_append, List.map_cons, List.map_nil]; simp (disch := simp) only [jpi, zei, zif, List.append_nil, List.length_map, List.length_range]
 ·have hke : k = sh.length := by simp at ht; omega
  have hml : (zi3 n.ins.length sh l).length = sh.length := by simp [zi3]
  refine zbd (hK4 _ _ ?_)
  refine zab hp zad hc rfl fun K32 hK32 => ?_
  simp -dsimp -implicitDefEqProofs (disch := first | assumption | omega | (simp [maxLen, zec] <;> omega) | decide) only [q_r, ↓reduceIte, Nat.reduceEqDiff]
  refine hK32 _ _ ?_
  refine zao ?_
  show zaj _ _ = _
  simp (disch := first | assumption | omega | (simp [maxLen, zec] <;> omega) | decide) only [zaj, zct, zce, zbt, zbl, zcg, Nat.zero_add, zax, ztl, zat, ↓reduceIte, Option.map_some, Option.bind_some, Nat.mul_one, List.getElem?_cons_zero, List.length_cons, List.length_nil, zbr]
  subst hke
  rw [hml]; rfl
end Go.Proofs.Ytgfnpfchdlcoeaa

/- Shapes; equal diagrams. -/
set_option linter.unusedVariables false
set_option linter.unusedSimpArgs false
set_option maxRecDepth 100000
set_option maxHeartbeats 4000000
namespace Go.Proofs.Ytgfnpfchdlcoeaa
open Go Go.RowKit
def jcf (left b : Nat) : Nat × Nat := if left < b % 4 * (b / 4 % 3) then (1, min (b / 4 % 3) left) else (b % 4, b / 4 % 3)
def zwl : Nat → List Nat → Sh
 | _, [] => []
 | left, b :: r => jcf left b :: zwl (left - (jcf left b).1 * (jcf left b).2) r
theorem zxv (left b : Nat) : (jcf left b).1 * (jcf left b).2 ≤ left ∧ (jcf left b).1 ≤ 3 ∧ (jcf left b).2 ≤ 2 := by
 unfold jcf
 split
 ·simp only [Nat.one_mul]; omega
 ·simp only; omega
theorem jif {α : Type} [Inhabited α] {l : List α} {k : Nat} (h : k < l.length) : l.drop k = nth l k :: l.drop (k + 1) := by
 rw [zcd h]; exact List.drop_eq_getElem_cons h
def u8D (b : Nat) : D := bD b
theorem jl3 (b0 b1 b2 : Nat) (h0 : b0 < 256) (h1 : b1 < 256) (h2 : b2 < 256) : zbi Try.prog 13 [.agg [u8D b0, u8D b1, u8D b2]] (.d (shD (zwl 5 [b0, b1, b2]))) := by
 obtain ⟨l, hl⟩ : ∃ l, l = [b0, b1, b2] := ⟨_, rfl⟩
 have hll : l.length = 3 := by rw [hl]; rfl
 have hlb : ∀ x ∈ l, x < 256 := by rw [hl]; simp [h0, h1, h2]
 rw [← hl]
 refine za8 (fn := Try.f13) (by kernel_rfl) Try.func13 rfl (Nat.le_of_ble_eq_true rfl) fun c hc hp => ?_
 refine zba (τ' := frL [(0, .d (.agg [u8D b0, u8D b1, u8D b2]))]) (zaa (zae _) rfl) ?_
 refine zab hp zad hc rfl fun K1 hK1 => ?_
 simp -dsimp -implicitDefEqProofs (disch := first | omega | decide) only [q_r, zau, zb0, ↓reduceIte, D.one, Value.oneCell', bD, zau, u8D]
 refine hK1 _ _ ?_
 refine zab hp zad hc rfl fun K2 hK2 => ?_
 simp -dsimp -implicitDefEqProofs (disch := first | omega | decide) only [q_r, zau, zb0, ↓reduceIte, List.replicate_zero, zau, Nat.zero_mul, List.flatten_nil, jg7]
 refine hK2 _ _ ?_
 refine zab hp zad hc rfl fun K3 hK3 => ?_
 simp -dsimp -implicitDefEqProofs (disch := first | omega | decide) only [q_r]
 refine hK3 _ _ ?_
 refine zaf fun K4 hK4 => ?_
 refine zab hp zad hc rfl fun K5 hK5 => ?_
 simp -dsimp -implicitDefEqProofs (disch := first | omega | decide) only [q_r]
 refine hK5 _ _ ?_
 refine zaq ?_
 refine za4 hp (fun τ' H' mm => ∃ (i : Nat) (acc : Sh) (left : Nat), (i ≤ 3 ∧ acc.length = i ∧ left ≤ 5 ∧ zwl 5 l = acc ++ zwl left (l.drop i)) ∧ mm = 3 - i ∧ H' = [.cells (avs (l.map u8D)), .cells (avs (acc.flatMap shC))] ∧ τ' = frL [(1, .op 0 0), (3, .os 2 1 0 i), (4, .d (iD left)), (5, .d (iD i))]) (3) ?_ ⟨0, [], 5, ⟨by omega, rfl, by omega, rfl⟩, rfl, rfl, rfl⟩ ?_
 ·refine Rt.end (zaa (zaa (zaa (zaa (zae _) rfl) rfl) rfl) rfl) ?_
  rw [hl]; rfl
 rintro τ' H' mm ⟨i, acc, left, ⟨hi, hal, hle, hac⟩, rfl, rfl, rfl⟩
 refine zaf fun K6 hK6 => ?_
 refine zab hp zad hc rfl fun K7 hK7 => ?_
 simp -dsimp -implicitDefEqProofs (disch := first | omega | decide) only [q_r, ↓reduceIte, Nat.reduceEqDiff, iD]
 refine hK7 _ _ ?_
 refine zag rfl (fun ht => ?_) (fun ht => ?_)
 ·have hi3 : i < 3 := by simp at ht; omega
  have hil : i < l.length := by omega
  have hbb := hlb _ (zcf hil)
  obtain ⟨x, hx⟩ : ∃ x, x = nth l i := ⟨_, rfl⟩
  rw [← hx] at hbb
  have hdr : l.drop i = x :: l.drop (i + 1) := by rw [jif hil, hx]
  obtain ⟨W, hW⟩ : ∃ W, W = x % 4 := ⟨_, rfl⟩
  obtain ⟨U, hU⟩ : ∃ U, U = x / 4 % 3 := ⟨_, rfl⟩
  have hW1 : (x : Int) % 4 = (W : Nat) := by omega
  have hU1 : (x : Int) / 4 % 3 = (U : Nat) := by omega
  have hWU := Nat.mul_le_mul (show W ≤ 3 by omega) (show U ≤ 2 by omega)
  have hWb1 : (W : Int) * (U : Int) ≤ 6 := by
   have : ((W * U : Nat) : Int) = (W : Int) * (U : Int) := by simp
   omega
  have hWb0 : 0 ≤ (W : Int) * (U : Int) := by
   have : ((W * U : Nat) : Int) = (W : Int) * (U : Int) := by simp
   omega
  refine zan (hK6 _ _ ?_)
  refine zaf fun K8 hK8 => ?_
  refine zaq ?_
  refine zab hp zad hc rfl fun K9 hK9 => ?_
  simp -dsimp -implicitDefEqProofs (disch := first | omega | decide) only [q_r, zam, ixO, zai, zf9, ↓reduceIte, Int.toNat_natCast, Nat.reduceEqDiff, bD, Nat.reduceAdd, u8D, ← hx, hW1, jn6, jeq, jer, jes, zsk]
  refine hK9 _ _ ?_
  refine zab hp zad hc rfl fun K10 hK10 => ?_
  simp -dsimp -implicitDefEqProofs (disch := first | omega | decide) only [q_r, zam, ixO, zai, zf9, ↓reduceIte, Int.toNat_natCast, Nat.reduceEqDiff, bD, Nat.reduceAdd, u8D, ← hx, hU1, jn6, jeq, jer, jes, zsk]
  refine hK10 _ _ ?_
  refine zaf fun K11 hK11 => ?_
  have hJ11 : ∀ τ' H', (∃ τ1 H1, ∃ (p : Nat × Nat), (p = jcf left x) ∧ H1 = [.cells (avs (l.map u8D)), .cells (avs (acc.flatMap shC))] ∧ τ1 = frL [(1, .op 0 0), (3, .os 2 1 0 i), (4, .d (iD left)), (5, .d (iD i)), (6, .d (iD p.1)), (7, .d (iD p.2))] ∧ Rt [] τ' H' τ1 H1) → K11 τ' H' := by
   rintro τ' H' ⟨_, _, p, hpx, rfl, rfl, hrt⟩
   refine hK11 _ _ (zbx hp hrt ?_)
   clear hrt
   obtain ⟨k1, k2, k3⟩ := zxv left x
   rw [← hpx] at k1 k2 k3
   have e1 : ((p.1 * p.2 : Nat) : Int) = (p.1 : Int) * (p.2 : Int) := by simp
   have e2 : 0 ≤ (p.1 : Int) * (p.2 : Int) := by omega
   have e3 : (p.1 : Int) * (p.2 : Int) ≤ left := by omega
   have e4 : (left : Int) - (p.1 : Int) * (p.2 : Int) = ((left - p.1 * p.2 : Nat) : Int) := by omega
   refine zab hp zad hc rfl fun K12 hK12 => ?_
   simp -dsimp -implicitDefEqProofs (disch := first | omega | decide) only [q_r, ↓reduceIte, Nat.reduceEqDiff, iD, e4]
   refine hK12 _ _ ?_
   refine zbs hp zad hc rfl fun K13 hK13 => ?_
   simp -dsimp -implicitDefEqProofs (disch := first | assumption | omega | (simp only [maxLen, List.length_replicate, eq_self, true_and, and_true, and_self, zah, List.length_map, List.length_append, List.length_cons, List.length_nil, List.length_set, List.length_range, List.length_take, List.length_drop, zdt] <;> omega) | decide | fail) only [q_r, zau, Option.map_some, zb7, zb0, zic, ↓reduceIte, eq_self, zat, zcw, zb2, List.map_cons, List.map_nil, List.length_cons, List.length_nil, List.getElem?_cons_zero, List.getElem?_cons_succ, List.cons_append, List.nil_append, List.append_nil, List.set_cons_zero, List.set_cons_succ, List.replicate_zero, List.replicate_succ, List.all_cons, List.all_nil, zdg, zl2, zfh, zdh, zcx, AV.one, D.one, Value.oneCell', Bool.and_self, true_and, Nat.zero_add, Nat.reduceEqDiff, List.drop_zero, Nat.reduceAdd, List.nil_append, zau, Nat.zero_mul, Nat.reduceMul, List.flatten_cons, List.flatten_nil, jlc, zxk, zxl, jlb, jg7]
   refine hK13 _ _ (hK8 _ _ ?_)
   refine zbs hp zad hc rfl fun K14 hK14 => ?_
   simp -dsimp -implicitDefEqProofs (disch := first | omega | decide) only [q_r, ↓reduceIte, Nat.reduceEqDiff]
   refine hK14 _ _ ⟨_, _, _, ?_, ⟨i + 1, acc ++ [p], left - p.1 * p.2, ⟨by omega, by simp [hal], by omega, by rw [hac, hdr, zwl, ← hpx]; simp⟩, rfl, rfl, rfl⟩, ?_⟩
   ·first | omega | (simp only [List.length_cons]; omega) | (dsimp only; omega)
   ·refine Rt.trans (Rt.gc (keep := [0,3]) (by decide) (by decide) (by simp [])) ?_
    refine Rt.end (zaa (zaa (zaa (zaa (zae _) rfl) rfl) rfl) rfl) ?_
    simp only [gcH, zbb, zap, List.map_cons, List.map_nil, List.getD_cons_zero, List.getD_cons_succ]; simp [shC, iD]
  refine zab hp zad hc rfl fun K15 hK15 => ?_
  simp -dsimp -implicitDefEqProofs (disch := first | omega | decide) only [q_r, ↓reduceIte, Nat.reduceEqDiff]
  refine hK15 _ _ ?_
  refine zag rfl (fun ht => ?_) (fun ht => ?_)
  ·have hgt : left < W * U := by
    have : ((W * U : Nat) : Int) = (W : Int) * (U : Int) := by simp
    simp at ht; omega
   have hmin : min (U : Int) (left : Int) = ((min U left : Nat) : Int) := by omega
   refine zab hp zad hc rfl fun K16 hK16 => ?_
   simp -dsimp -implicitDefEqProofs (disch := first | omega | decide) only [q_r]
   refine hK16 _ _ ?_
   refine zbs hp zad hc rfl fun K17 hK17 => ?_
   simp -dsimp -implicitDefEqProofs (disch := first | omega | decide) only [q_r, zar, ↓reduceIte, Nat.reduceEqDiff, hmin]
   refine hK17 _ _ (hJ11 _ _ ⟨_, _, (1, min U left), by rw [jcf, ← hW, ← hU, if_pos hgt], rfl, rfl, ?_⟩)
   refine Rt.end (zaa (zaa (zaa (zaa (zaa (zaa (zae _) rfl) rfl) rfl) rfl) rfl) rfl) ?_
   rfl
  ·have hgt : ¬ left < W * U := by
    have : ((W * U : Nat) : Int) = (W : Int) * (U : Int) := by simp
    simp at ht; omega
   refine zan (hJ11 _ _ ⟨_, _, (W, U), by rw [jcf, ← hW, ← hU, if_neg hgt], rfl, rfl, ?_⟩)
   refine Rt.end (zaa (zaa (zaa (zaa (zaa (zaa (zae _) rfl) rfl) rfl) rfl) rfl) rfl) ?_
   rfl
 ·have hie : i = 3 := by simp at ht; omega
  have hfin : zwl 5 l = acc := by rw [hac, List.drop_eq_nil_of_le (by omega)]; simp [zwl]
  refine zbd (hK4 _ _ ?_)
  refine zab hp zad hc rfl fun K18 hK18 => ?_
  simp -dsimp -implicitDefEqProofs (disch := first | omega | decide) only [q_r, ↓reduceIte, Nat.reduceEqDiff]
  refine hK18 _ _ ?_
  refine zao ?_
  show zaj _ _ = _
  simp (disch := first | assumption | omega | (simp only [maxLen, List.length_replicate, eq_self, true_and, and_true, and_self, zah, List.length_map, List.length_append, List.length_cons, List.length_nil, List.length_set, List.length_range, List.length_take, List.length_drop, zdt] <;> omega) | decide | fail) only [zaj, zct, zce, zbt, zbl, zcg, Nat.reduceAdd, Nat.zero_add, zax, zat, ↓reduceIte, Option.map_some, Option.bind_some, List.getElem?_cons_zero, List.getElem?_cons_succ, List.length_cons, List.length_nil]
  rw [hfin, jo7, ← hal]; rfl
theorem p_0 {l : List (Int × Int)} {k : Nat} (h : k < l.length) : (l.flatMap pC)[k * 2]? = some (iD (nth l k).1) := (zf3 (j := 0) p_w h (by omega)).trans rfl
theorem p_1 {l : List (Int × Int)} {k : Nat} (h : k < l.length) : (l.flatMap pC)[k * 2 + 1]? = some (iD (nth l k).2) := (zf3 (j := 1) p_w h (by omega)).trans rfl
theorem zzs (sh : List (Int × Int)) (hl : sh.length ≤ maxLen) : zbi Try.prog 19 [shI sh] (.d (oD (!decide (8 < sh.length) && !sh.any zn7))) := by
 unfold maxLen at hl
 refine za8 (fn := Try.f19) (by kernel_rfl) Try.func19 rfl (Nat.le_of_ble_eq_true rfl) fun c hc hp => ?_
 refine zba (τ' := frL [(0, .d (shI sh))]) (zaa (zae _) rfl) ?_
 refine zab hp zad hc rfl fun K1 hK1 => ?_
 simp -dsimp -implicitDefEqProofs (disch := first | omega | decide) only [q_r, shI]
 refine hK1 _ _ ?_
 refine zaf fun K2 hK2 => ?_
 refine zab hp zad hc rfl fun K3 hK3 => ?_
 simp -dsimp -implicitDefEqProofs (disch := first | omega | decide) only [q_r, zc1, zar, ↓reduceIte, Nat.reduceEqDiff, zgd]
 refine hK3 _ _ ?_
 refine zag rfl (fun ht => ?_) (fun ht => ?_)
 ·have h8 : 8 < sh.length := by simp at ht; omega
  refine zab hp zad hc rfl fun K4 hK4 => ?_
  simp -dsimp -implicitDefEqProofs (disch := first | omega | decide) only [q_r]
  refine hK4 _ _ ?_
  refine zao ?_
  show zaj _ _ = _
  simp (disch := first | omega | decide) only [zaj, zct, za1, D.fix, zat, ↓reduceIte, Option.map_some, List.length_nil, oD]
  simp [h8]
 ·have h8 : ¬ 8 < sh.length := by simp at ht; omega
  refine zan (hK2 _ _ ?_)
  refine zaf fun K5 hK5 => ?_
  refine zab hp zad hc rfl fun K6 hK6 => ?_
  simp -dsimp -implicitDefEqProofs (disch := first | omega | decide) only [q_r]
  refine hK6 _ _ ?_
  refine zaq ?_
  refine za4 hp (fun τ' H' mm => ∃ (k : Nat), (k ≤ sh.length ∧ (sh.take k).any zn7 = false) ∧ mm = sh.length - k ∧ H' = [] ∧ τ' = frL [(0, .d (shI sh)), (3, .d (iD k))]) (sh.length) ?_ ⟨0, ⟨Nat.zero_le _, rfl⟩, rfl, rfl, rfl⟩ ?_
  ·refine Rt.end (zaa (zaa (zae _) rfl) rfl) ?_
   rfl
  rintro τ' H' mm ⟨k, ⟨hk, hno⟩, rfl, rfl, rfl⟩
  refine zaf fun K7 hK7 => ?_
  refine zab hp zad hc rfl fun K8 hK8 => ?_
  simp -dsimp -implicitDefEqProofs (disch := first | omega | decide) only [q_r, zc1, zar, ↓reduceIte, Nat.reduceEqDiff, iD, shI, zgd]
  refine hK8 _ _ ?_
  refine zag rfl (fun ht => ?_) (fun ht => ?_)
  ·have hlt : k < sh.length := by simp at ht; omega
   refine zan (hK7 _ _ ?_)
   refine zaf fun K9 hK9 => ?_
   refine zaq ?_
   refine zab hp zad hc rfl fun K10 hK10 => ?_
   rcases or4 (decide ((nth sh k).1 < 0)) (decide (8 < (nth sh k).1)) (decide ((nth sh k).2 < 0)) (decide (8 < (nth sh k).2)) with q1 | ⟨q1, q2⟩ | ⟨q1, q2, q3⟩ | ⟨q1, q2, q3, q4⟩ | ⟨q1, q2, q3, q4⟩
   ·have q2 := q1
    have q3 := q1
    have q4 := q1
    have hb : zn7 (nth sh k) = true := by unfold zn7; simp only [decide_eq_true_eq] at q1; simp; omega
    simp -dsimp -implicitDefEqProofs (disch := first | omega | decide) only [q_r, zam, ixO, zai, ↓reduceIte, Int.toNat_natCast, Nat.reduceEqDiff, iD, Int.toNat_zero, p_0, q1, zgd, zlo, zci, zcn]
    refine hK10 _ _ ?_
    refine zag rfl (fun ht => ?_) (fun ht => ?_)
    ·refine zab hp zad hc rfl fun K11 hK11 => ?_
     simp -dsimp -implicitDefEqProofs (disch := first | omega | decide) only [q_r]
     refine hK11 _ _ ?_
     refine zao ?_
     show zaj _ _ = _
     simp (disch := first | omega | decide) only [zaj, zct, za1, D.fix, zat, ↓reduceIte, Option.map_some, List.length_nil, oD]
     rw [zgo hlt hb]; simp
    ·cases ht
   ·have q3 := q1
    have q4 := q1
    have hb : zn7 (nth sh k) = true := by unfold zn7; simp only [decide_eq_true_eq] at q2; simp; omega
    simp -dsimp -implicitDefEqProofs (disch := first | omega | decide) only [q_r, zam, ixO, zai, ↓reduceIte, Int.toNat_natCast, Nat.reduceEqDiff, iD, Int.toNat_zero, p_0, q1, q2, zgd, zlo, zci, zcn]
    refine hK10 _ _ ?_
    refine zag rfl (fun ht => ?_) (fun ht => ?_)
    ·refine zab hp zad hc rfl fun K12 hK12 => ?_
     simp -dsimp -implicitDefEqProofs (disch := first | omega | decide) only [q_r]
     refine hK12 _ _ ?_
     refine zao ?_
     show zaj _ _ = _
     simp (disch := first | omega | decide) only [zaj, zct, za1, D.fix, zat, ↓reduceIte, Option.map_some, List.length_nil, oD]
     rw [zgo hlt hb]; simp
    ·cases ht
   ·have q4 := q1
    have hb : zn7 (nth sh k) = true := by unfold zn7; simp only [decide_eq_true_eq] at q3; simp; omega
    simp -dsimp -implicitDefEqProofs (disch := first | omega | decide) only [q_r, zam, ixO, zai, ↓reduceIte, Int.toNat_natCast, Nat.reduceEqDiff, iD, Int.toNat_zero, Int.reduceToNat, p_0, p_1, q1, q2, q3, zgd, zlo, zci, zcn]
    refine hK10 _ _ ?_
    refine zag rfl (fun ht => ?_) (fun ht => ?_)
    ·refine zab hp zad hc rfl fun K13 hK13 => ?_
     simp -dsimp -implicitDefEqProofs (disch := first | omega | decide) only [q_r]
     refine hK13 _ _ ?_
     refine zao ?_
     show zaj _ _ = _
     simp (disch := first | omega | decide) only [zaj, zct, za1, D.fix, zat, ↓reduceIte, Option.map_some, List.length_nil, oD]
     rw [zgo hlt hb]; simp
    ·cases ht
   ·have hb : zn7 (nth sh k) = true := by unfold zn7; simp only [decide_eq_true_eq] at q4; simp; omega
    simp -dsimp -implicitDefEqProofs (disch := first | omega | decide) only [q_r, zam, ixO, zai, ↓reduceIte, Int.toNat_natCast, Nat.reduceEqDiff, iD, Int.toNat_zero, Int.reduceToNat, p_0, p_1, q1, q2, q3, q4, zgd, zlo, zci, zcn]
    refine hK10 _ _ ?_
    refine zag rfl (fun ht => ?_) (fun ht => ?_)
    ·refine zab hp zad hc rfl fun K14 hK14 => ?_
     simp -dsimp -implicitDefEqProofs (disch := first | omega | decide) only [q_r]
     refine hK14 _ _ ?_
     refine zao ?_
     show zaj _ _ = _
     simp (disch := first | omega | decide) only [zaj, zct, za1, D.fix, zat, ↓reduceIte, Option.map_some, List.length_nil, oD]
     rw [zgo hlt hb]; simp
    ·cases ht
   ·have hb : zn7 (nth sh k) = false := by unfold zn7; simp only [decide_eq_false_iff_not] at q1 q2 q3 q4; simp; omega
    simp -dsimp -implicitDefEqProofs (disch := first | omega | decide) only [q_r, zam, ixO, zai, ↓reduceIte, Int.toNat_natCast, Nat.reduceEqDiff, iD, Int.toNat_zero, Int.reduceToNat, p_0, p_1, q1, q2, q3, q4, zgd, zlo, zci, zcn]
    refine hK10 _ _ ?_
    refine zag rfl (fun ht => ?_) (fun ht => ?_)
    ·cases ht
    ·refine zan (hK9 _ _ ?_)
     refine zbs hp zad hc rfl fun K15 hK15 => ?_
     simp -dsimp -implicitDefEqProofs (disch := first | omega | decide) only [q_r, ↓reduceIte, Nat.reduceEqDiff]
     refine hK15 _ _ ⟨_, _, _, ?_, ⟨k + 1, ⟨by omega, by rw [zmg hlt, hno, hb]; rfl⟩, rfl, rfl, rfl⟩, ?_⟩
     ·first | omega | (simp only [List.length_cons]; omega) | (dsimp only; omega)
     ·refine Rt.end (zaa (zaa (zae _) rfl) rfl) ?_
      rfl
  ·have hke : k = sh.length := by simp at ht; omega
   rw [hke, List.take_length] at hno
   refine zbd (hK5 _ _ ?_)
   refine zab hp zad hc rfl fun K16 hK16 => ?_
   simp -dsimp -implicitDefEqProofs (disch := first | omega | decide) only [q_r]
   refine hK16 _ _ ?_
   refine zao ?_
   show zaj _ _ = _
   simp (disch := first | omega | decide) only [zaj, zct, za1, D.fix, zat, ↓reduceIte, Option.map_some, List.length_nil, oD]
   simp [h8, hno]
end Go.Proofs.Ytgfnpfchdlcoeaa

/- Equal diagrams; the chapter's examples. -/
set_option linter.unusedVariables false
set_option linter.unusedSimpArgs false
set_option maxRecDepth 100000
set_option maxHeartbeats 4000000
namespace Go.Proofs.Ytgfnpfchdlcoeaa
open Go Go.RowKit
theorem jpk (ns ns' : List NI) (rs rs' : List Int) (h1 : ns.length ≤ 1000000) (h2 : ns'.length ≤ 1000000) (h3 : rs.length ≤ maxLen) (h4 : rs'.length ≤ maxLen) : zbi Try.prog 31 [zi2 ns rs, zi2 ns' rs'] (.d (oD (decide (ns = ns') && decide (rs = rs')))) := by
 unfold maxLen at h3 h4
 refine za8 (fn := Try.f31) (by kernel_rfl) Try.func31 rfl (Nat.le_of_ble_eq_true rfl) fun c hc hp => ?_
 refine zba (τ' := frL [(0, .d (zi2 ns rs)), (1, .d (zi2 ns' rs'))]) (zaa (zaa (zae _) rfl) rfl) ?_
 refine zab hp zad hc rfl fun K1 hK1 => ?_
 simp -dsimp -implicitDefEqProofs (disch := first | omega | decide) only [q_r, zau, zb0, ↓reduceIte, D.one, Nat.reduceEqDiff, zau, zi2, zee]
 refine hK1 _ _ ?_
 refine zaf fun K2 hK2 => ?_
 refine zab hp zad hc rfl fun K3 hK3 => ?_
 rcases (show ns.length ≠ ns'.length ∨ (ns.length = ns'.length ∧ rs.length ≠ rs'.length) ∨ (ns.length = ns'.length ∧ rs.length = rs'.length) by omega) with q | ⟨q, q'⟩ | ⟨q, q'⟩
 ·have q1 : ((ns.length : Int) != ns'.length) = true := by simp; omega
  have q2 := q1
  have hx : ns ≠ ns' := fun e => q (by rw [e])
  simp -dsimp -implicitDefEqProofs (disch := first | omega | decide) only [q_r, zam, zac, zc1, zar, ↓reduceIte, Nat.reduceEqDiff, Nat.reduceAdd, q1, zbk, zcj, zck, zcm]
  refine hK3 _ _ ?_
  refine zag rfl (fun ht => ?_) (fun ht => ?_)
  ·refine zab hp zad hc rfl fun K4 hK4 => ?_
   simp -dsimp -implicitDefEqProofs (disch := first | omega | decide) only [q_r]
   refine hK4 _ _ ?_
   refine zao ?_
   show zaj _ _ = _
   simp (disch := first | omega | decide) only [zaj, zct, za1, Nat.reduceAdd, Nat.zero_add, D.fix, zat, ↓reduceIte, Option.map_some, List.length_cons, List.length_nil, oD]
   simp [hx]
  ·cases ht
 ·have q1 : ((ns.length : Int) != ns'.length) = false := by simp; omega
  have q2 : ((rs.length : Int) != rs'.length) = true := by simp; omega
  have hx : rs ≠ rs' := fun e => q' (by rw [e])
  simp -dsimp -implicitDefEqProofs (disch := first | omega | decide) only [q_r, zam, zac, zc1, zar, ↓reduceIte, Nat.reduceEqDiff, Nat.reduceAdd, q1, q2, zbk, zcj, zck, zcm, zes, zea, zeb, zc3]
  refine hK3 _ _ ?_
  refine zag rfl (fun ht => ?_) (fun ht => ?_)
  ·refine zab hp zad hc rfl fun K5 hK5 => ?_
   simp -dsimp -implicitDefEqProofs (disch := first | omega | decide) only [q_r]
   refine hK5 _ _ ?_
   refine zao ?_
   show zaj _ _ = _
   simp (disch := first | omega | decide) only [zaj, zct, za1, Nat.reduceAdd, Nat.zero_add, D.fix, zat, ↓reduceIte, Option.map_some, List.length_cons, List.length_nil, oD]
   simp [hx]
  ·cases ht
 ·have q1 : ((ns.length : Int) != ns'.length) = false := by simp; omega
  have q2 : ((rs.length : Int) != rs'.length) = false := by simp; omega
  simp -dsimp -implicitDefEqProofs (disch := first | omega | decide) only [q_r, zam, zac, zc1, zar, ↓reduceIte, Nat.reduceEqDiff, Nat.reduceAdd, q1, q2, zbk, zcj, zck, zcm, zes, zea, zeb, zc3]
  refine hK3 _ _ ?_
  refine zag rfl (fun ht => ?_) (fun ht => ?_)
  ·cases ht
  ·refine zan (hK2 _ _ ?_)
   refine zaf fun K6 hK6 => ?_
   refine zab hp zad hc rfl fun K7 hK7 => ?_
   simp -dsimp -implicitDefEqProofs (disch := first | omega | decide) only [q_r]
   refine hK7 _ _ ?_
   refine zaq ?_
   refine za4 hp (fun τ' H' mm => ∃ (k : Nat), (k ≤ ns.length ∧ ns.take k = ns'.take k) ∧ mm = ns.length - k ∧ H' = [.cells (avs (zee ns rs)), .cells (avs (zee ns' rs'))] ∧ τ' = frL [(2, .op 0 0), (3, .op 1 0), (5, .d (iD k))]) (ns.length) ?_ ⟨0, ⟨Nat.zero_le _, rfl⟩, rfl, rfl, rfl⟩ ?_
   ·refine Rt.end (zaa (zaa (zaa (zae _) rfl) rfl) rfl) ?_
    rfl
   rintro τ' H' mm ⟨k, ⟨hk, htk⟩, rfl, rfl, rfl⟩
   refine zaf fun K8 hK8 => ?_
   refine zab hp zad hc rfl fun K9 hK9 => ?_
   simp -dsimp -implicitDefEqProofs (disch := first | omega | decide) only [q_r, zam, zac, zc1, zar, ↓reduceIte, Nat.reduceEqDiff, iD, Nat.reduceAdd, zee, zbk, zcj, zck, zcm]
   refine hK9 _ _ ?_
   refine zag rfl (fun ht => ?_) (fun ht => ?_)
   ·have hlt : k < ns.length := by simp at ht; omega
    have hlt' : k < ns'.length := by omega
    refine zan (hK8 _ _ ?_)
    refine zaf fun K10 hK10 => ?_
    refine zaq ?_
    refine zbo zad hc mixed rfl (q := 0) (by kernel_rfl) (by kernel_rfl) fun K11 hK11 => ?_
    by_cases heq : nth ns k = nth ns' k
    ·have g4 : ((nth ns k).v == (nth ns' k).v && ((nth ns k).lo == (nth ns' k).lo && (nth ns k).hi == (nth ns' k).hi)) = true := by rw [heq]; simp
     simp -dsimp -implicitDefEqProofs (disch := first | omega | decide) only [q_r, zam, zac, ixO, zai, ↓reduceIte, List.append_nil, List.replicate_zero, Bool.and_true, Int.toNat_natCast, Nat.reduceEqDiff, killAll, iD, Nat.reduceAdd, znh, zeq, zdw, zer, zdv, zcy, zsx, niC, g4, zbk, zcj, zck, zcm, zgn, zg4, zsd jhi]
     refine hK11 _ _ ?_
     refine zag rfl (fun ht => ?_) (fun ht => ?_)
     ·cases ht
     ·refine zan (hK10 _ _ ?_)
      refine zbs hp zad hc rfl fun K12 hK12 => ?_
      simp -dsimp -implicitDefEqProofs (disch := first | omega | decide) only [q_r, ↓reduceIte, Nat.reduceEqDiff]
      refine hK12 _ _ ⟨_, _, _, ?_, ⟨k + 1, ⟨by omega, zg8 hlt hlt' htk heq⟩, rfl, rfl, rfl⟩, ?_⟩
      ·first | omega | (simp only [List.length_cons]; omega) | (dsimp only; omega)
      ·refine Rt.end (zaa (zaa (zaa (zae _) rfl) rfl) rfl) ?_
       rfl
    ·have g4 : ((nth ns k).v == (nth ns' k).v && ((nth ns k).lo == (nth ns' k).lo && (nth ns k).hi == (nth ns' k).hi)) = false := by
      rw [Bool.eq_false_iff]
      intro h
      simp only [Bool.and_eq_true, beq_iff_eq] at h
      exact heq (ni_eq.1 h)
     have hx : ns ≠ ns' := fun e => heq (by rw [e])
     simp -dsimp -implicitDefEqProofs (disch := first | omega | decide) only [q_r, zam, zac, ixO, zai, ↓reduceIte, List.append_nil, List.replicate_zero, Bool.and_true, Int.toNat_natCast, Nat.reduceEqDiff, killAll, iD, Nat.reduceAdd, znh, zeq, zdw, zer, zdv, zcy, zsx, niC, g4, zbk, zcj, zck, zcm, zgn, zg4, zsd jhi]
     refine hK11 _ _ ?_
     refine zag rfl (fun ht => ?_) (fun ht => ?_)
     ·refine zab hp zad hc rfl fun K13 hK13 => ?_
      simp -dsimp -implicitDefEqProofs (disch := first | omega | decide) only [q_r]
      refine hK13 _ _ ?_
      refine zao ?_
      show zaj _ _ = _
      simp (disch := first | omega | decide) only [zaj, zct, za1, Nat.reduceAdd, Nat.zero_add, D.fix, zat, ↓reduceIte, Option.map_some, List.length_cons, List.length_nil, oD]
      simp [hx]
     ·cases ht
   ·have hke : k = ns.length := by simp at ht; omega
    have hne : ns = ns' := by rw [hke, List.take_length, q, List.take_length] at htk; exact htk
    refine zbd (hK6 _ _ ?_)
    refine zaf fun K14 hK14 => ?_
    refine zab hp zad hc rfl fun K15 hK15 => ?_
    simp -dsimp -implicitDefEqProofs (disch := first | omega | decide) only [q_r]
    refine hK15 _ _ ?_
    refine zaq ?_
    refine za4 hp (fun τ' H' mm => ∃ (k : Nat), (k ≤ rs.length ∧ rs.take k = rs'.take k) ∧ mm = rs.length - k ∧ H' = [.cells (avs (zee ns rs)), .cells (avs (zee ns' rs'))] ∧ τ' = frL [(2, .op 0 0), (3, .op 1 0), (6, .d (iD k))]) (rs.length) ?_ ⟨0, ⟨Nat.zero_le _, rfl⟩, rfl, rfl, rfl⟩ ?_
    ·refine Rt.end (zaa (zaa (zaa (zae _) rfl) rfl) rfl) ?_
     rfl
    rintro τ' H' mm ⟨k, ⟨hk1, htk1⟩, rfl, rfl, rfl⟩
    refine zaf fun K16 hK16 => ?_
    refine zab hp zad hc rfl fun K17 hK17 => ?_
    simp -dsimp -implicitDefEqProofs (disch := first | omega | decide) only [q_r, zam, zac, zc1, zar, ↓reduceIte, Nat.reduceEqDiff, iD, Nat.reduceAdd, zee, zes, zea, zeb, zc3]
    refine hK17 _ _ ?_
    refine zag rfl (fun ht => ?_) (fun ht => ?_)
    ·have hlt : k < rs.length := by simp at ht; omega
     have hlt' : k < rs'.length := by omega
     refine zan (hK16 _ _ ?_)
     refine zaf fun K18 hK18 => ?_
     refine zaq ?_
     refine zbo zad hc mixed rfl (q := 0) (by kernel_rfl) (by kernel_rfl) fun K19 hK19 => ?_
     simp -dsimp -implicitDefEqProofs (disch := first | omega | decide) only [q_r, zam, zac, ixO, zai, ↓reduceIte, List.append_nil, List.replicate_zero, Int.toNat_natCast, Nat.reduceEqDiff, killAll, iD, Nat.reduceAdd, zes, zea, zeb, zc3, zci, zcn]
     refine hK19 _ _ ?_
     refine zag rfl (fun ht => ?_) (fun ht => ?_)
     ·have hx : rs ≠ rs' := fun e => by subst e; simp at ht
      refine zab hp zad hc rfl fun K20 hK20 => ?_
      simp -dsimp -implicitDefEqProofs (disch := first | omega | decide) only [q_r]
      refine hK20 _ _ ?_
      refine zao ?_
      show zaj _ _ = _
      simp (disch := first | omega | decide) only [zaj, zct, za1, Nat.reduceAdd, Nat.zero_add, D.fix, zat, ↓reduceIte, Option.map_some, List.length_cons, List.length_nil, oD]
      simp [hx]
     ·refine zan (hK18 _ _ ?_)
      refine zbs hp zad hc rfl fun K21 hK21 => ?_
      simp -dsimp -implicitDefEqProofs (disch := first | omega | decide) only [q_r, ↓reduceIte, Nat.reduceEqDiff]
      refine hK21 _ _ ⟨_, _, _, ?_, ⟨k + 1, ⟨by omega, zg8 hlt hlt' htk1 (by simpa using ht)⟩, rfl, rfl, rfl⟩, ?_⟩
      ·first | omega | (simp only [List.length_cons]; omega) | (dsimp only; omega)
      ·refine Rt.end (zaa (zaa (zaa (zae _) rfl) rfl) rfl) ?_
       rfl
    ·have hke : k = rs.length := by simp at ht; omega
     have hre : rs = rs' := by rw [hke, List.take_length, q', List.take_length] at htk1; exact htk1
     refine zbd (hK14 _ _ ?_)
     refine zab hp zad hc rfl fun K22 hK22 => ?_
     simp -dsimp -implicitDefEqProofs (disch := first | omega | decide) only [q_r]
     refine hK22 _ _ ?_
     refine zao ?_
     show zaj _ _ = _
     simp (disch := first | omega | decide) only [zaj, zct, za1, Nat.reduceAdd, Nat.zero_add, D.fix, zat, ↓reduceIte, Option.map_some, List.length_cons, List.length_nil, oD]
     simp [hne, hre]
def zui (ns : List NI) (rs : List Int) (e : Int) : D := .agg (zee ns rs ++ [iD e])
theorem zxw (ns ns' : List NI) (rs rs' : List Int) (e e' : Int) (h1 : ns.length ≤ 1000000) (h2 : ns'.length ≤ 1000000) (h3 : rs.length ≤ maxLen) (h4 : rs'.length ≤ maxLen) : zbi Try.prog 14 [zui ns rs e, zui ns' rs' e'] (.d (oD (decide (e = e') && (decide (ns = ns') && decide (rs = rs'))))) := by
 refine za8 (fn := Try.f14) (by kernel_rfl) Try.func14 rfl (Nat.le_of_ble_eq_true rfl) fun c hc hp => ?_
 refine zba (τ' := frL [(0, .d (zui ns rs e)), (1, .d (zui ns' rs' e'))]) (zaa (zaa (zae _) rfl) rfl) ?_
 refine zab hp zad hc rfl fun K1 hK1 => ?_
 simp -dsimp -implicitDefEqProofs (disch := first | omega | decide) only [q_r, zau, zb0, ↓reduceIte, D.one, Value.oneCell', Nat.reduceEqDiff, iD, zau, zui, zee]
 refine hK1 _ _ ?_
 refine zab hp zad hc rfl fun K2 hK2 => ?_
 by_cases he : e = e'
 ·have q1 : (e == e') = true := by simp [he]
  simp -dsimp -implicitDefEqProofs (disch := first | omega | decide) only [q_r, zam, zac, ↓reduceIte, Nat.reduceEqDiff, Nat.reduceAdd, q1, jeu, jha, jhb, jk3, zc8, zds]
  refine zb9 (jpk ns ns' rs rs' h1 h2 h3 h4) rfl ?_
  simp -dsimp -implicitDefEqProofs (disch := first | omega | decide) only [q_r, ↓reduceIte, Nat.reduceEqDiff, oD]
  refine hK2 _ _ ?_
  refine zao ?_
  show zaj _ _ = _
  simp (disch := first | omega | decide) only [zaj, zct, za1, Nat.reduceAdd, Nat.zero_add, D.fix, zat, ↓reduceIte, Option.map_some, List.length_cons, List.length_nil, oD]
  simp [he]
 ·have q1 : (e == e') = false := by simp [he]
  simp -dsimp -implicitDefEqProofs (disch := first | omega | decide) only [q_r, zam, zac, ↓reduceIte, Nat.reduceEqDiff, Nat.reduceAdd, q1, jeu, jha, jhb]
  refine hK2 _ _ ?_
  refine zao ?_
  show zaj _ _ = _
  simp (disch := first | omega | decide) only [zaj, zct, za1, Nat.reduceAdd, Nat.zero_add, D.fix, zat, ↓reduceIte, Option.map_some, List.length_cons, List.length_nil, oD]
  simp [he]
def toI (n : Nd) : NI := ⟨n.v, n.lo, n.hi⟩
theorem jr0 (l : List Nd) : l.flatMap ndC = (l.map toI).flatMap niC := by rw [List.flatMap_map]; rfl
theorem jr1 (l : List Nat) : l.map zzi = (l.map fun (k : Nat) => (k : Int)).map iD := by rw [List.map_map]; rfl
theorem jpl (ns : List Nd) (rs : List Nat) : zdp ns rs = zee (ns.map toI) (rs.map fun (k : Nat) => (k : Int)) := by
 unfold zdp zee
 rw [jr0, jr1, List.length_map, List.length_map]
theorem jju (ns : List Nd) (rs : List Nat) : zfp ns rs = zi2 (ns.map toI) (rs.map fun (k : Nat) => (k : Int)) := by unfold zfp zi2; rw [jpl]
theorem jfl (ns : List Nd) (rs : List Nat) (e : Int) : zsw ns rs e = zui (ns.map toI) (rs.map fun (k : Nat) => (k : Int)) e := by unfold zsw zui; rw [jpl]
end Go.Proofs.Ytgfnpfchdlcoeaa
