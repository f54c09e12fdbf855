/- The reference's assignments, memories, shapes; equal diagrams. -/
import Derived.Test.YtgfnpfchdlcoeaaQ
import Derived.Test.YtgfnpfchdlcoeaaCq
set_option linter.unusedVariables false
set_option linter.unusedSimpArgs false
namespace Go.Proofs.Ytgfnpfchdlcoeaa
open Go Go.RowKit
theorem gcVs_app {keep : List Nat} {a : List D} {x : AV} : gcVs keep (avs a ++ [x]) = avs a ++ [gcV keep x] := by
  rw [zhb, List.map_append]
  congr 1
  rw [← zhb]; exact zaz
theorem fzVs_app {id : Nat} {l : List D} {a : List D} {x : AV} : fzVs id l (avs a ++ [x]) = avs a ++ [fzV id l x] := by
  rw [zgk, List.map_append]
  congr 1
  rw [← zgk]; exact zbl
theorem fz_all {id n : Nat} {l : List D} (h : l.length = n) : fzV id l (.os 1 id 0 n) = .d (.fs l n) := fzV_os (by rw [Nat.mul_one]; exact zak h)
def asgL (v : Nat) (i : Int) : List Bool := (List.range v).map fun (j : Nat) => hasB i ((v : Int) - 1 - j)
set_option maxRecDepth 100000 in
set_option linter.unusedVariables false in
set_option maxHeartbeats 4000000 in
theorem asg_c (v : Nat) (i : Int) (hv : v ≤ 1000) : zce Try.prog 39 [iD v, iD i] (.d (za9 (asgL v i))) := by
  refine zb7 (fn := Try.f39) (by kernel_rfl) Try.func39 rfl (Nat.le_of_ble_eq_true rfl) fun c hc hp => ?_
  refine zch (τ' := frL [(0, .d (iD v)), (1, .d (iD i))]) (zaa (zaa (zaq _) rfl) rfl) ?_
  refine zac hp zao hc rfl fun K1 hK1 => ?_
  simp -dsimp -implicitDefEqProofs (disch := first | assumption | omega | (simp [maxLen, zab] <;> omega) | decide) only [zag, zaj, q_f, iD]
  refine hK1 _ _ ?_
  refine zac hp zao hc rfl fun K2 hK2 => ?_
  simp -dsimp -implicitDefEqProofs (disch := first | assumption | omega | (simp [maxLen, zab] <;> omega) | decide) only [zag, zdw, zbd, zaj, zae, q_o, layF, ↓reduceIte, q_b, ifp, q_f, q_s, q_l, List.replicate_zero, zbv, q_a, q_n, zbd, zjw]
  refine hK2 _ _ ?_
  refine zas fun K3 hK3 => ?_
  refine zac hp zao hc rfl fun K4 hK4 => ?_
  simp -dsimp -implicitDefEqProofs (disch := first | assumption | omega | (simp [maxLen, zab] <;> omega) | decide) only [zal, zag, za1, zaj, zae, q_o, zay, zg7, ↓reduceIte, q_b, q_f, Nat.reduceEqDiff]
  refine hK4 _ _ ?_
  refine zbg ?_
  refine zby hp (fun τ' H' mm => ∃ (r : Nat), (r ≤ v) ∧ mm = v - r ∧ H' = [.cells (avs (((List.range r).map fun (j : Nat) => hasB i ((v : Int) - 1 - j)).map oD))] ∧ τ' = frL [(1, .d (iD i)), (5, .os 1 0 0 r), (6, .d (iD ((v : Int) - 1 - r)))]) (v) ?_ ⟨0, Nat.zero_le _, rfl, rfl, rfl⟩ ?_
  · refine Rt.end (zaa (zaa (zaa (zaq _) (by first | rfl | (simp [frL, iD]; done) | simp [Fr.put, frL, gcV, fzV, posN, iD, bD, uD, oD, zbj, za9, zbp, zbt, zbm, Int.sub_sub, Int.add_assoc, *])) rfl) rfl) ?_
    first | rfl | (simp only [zbj, za9, zbp, zbt, zbm, gcH, zb1, zcb, zcc, gc_m, fz_m, zaz, gcVs, gcV, zcy, fzH, zc0, zb9, zcd, zbl, Nat.reduceAdd, fzVs, fzV, posN, zav, zap, List.map_cons, List.map_nil, List.getD_cons_zero, List.getD_cons_succ, ↓reduceIte, Nat.reduceEqDiff, Option.map_some, List.set_cons_zero, List.set_cons_succ, zba, zak, Nat.mul_one, List.length_map, List.cons_append, List.nil_append]; first | done | rfl)
  rintro τ' H' mm ⟨r, hr, rfl, rfl, rfl⟩
  refine zas fun K5 hK5 => ?_
  refine zac hp zao hc rfl fun K6 hK6 => ?_
  simp -dsimp -implicitDefEqProofs (disch := first | assumption | omega | (simp [maxLen, zab] <;> omega) | decide) only [zal, za1, zaj, zae, q_o, zay, zeb, ↓reduceIte, q_b, q_f, Nat.reduceEqDiff, iD]
  refine hK6 _ _ ?_
  refine zau rfl (fun ht => ?_) (fun ht => ?_)
  · have hlt : r < v := by simp at ht; omega
    refine zbb (hK5 _ _ ?_)
    refine zas fun K7 hK7 => ?_
    refine zbg ?_
    refine zcw hp zao hc rfl fun K8 hK8 => ?_
    simp -dsimp -implicitDefEqProofs (disch := first | assumption | omega | (simp [maxLen, zab] <;> omega) | decide) only [zal, zag, za1, ze8, zdw, zd6, zbd, zaj, zae, q_o, zay, zgx, layF, srcF, zd9, v_shr, zuo, ↓reduceIte, q_b, ifp, ifn, q_f, q_s, q_l, List.append_nil, List.replicate_zero, List.replicate_succ, zbv, q_a, zbn, q_n, Nat.reduceEqDiff, zab, zcv, zak, List.drop_zero, zrt, Nat.reduceAdd, zbd, List.length_map, ik_3, ik_78, zjw]
    refine hK8 _ _ (hK7 _ _ ?_)
    refine zcw hp zao hc rfl fun K9 hK9 => ?_
    simp -dsimp -implicitDefEqProofs (disch := first | assumption | omega | (simp [maxLen, zab] <;> omega) | decide) only [zal, zag, za1, zaj, zae, q_o, zay, zg7, ↓reduceIte, q_b, q_f, Nat.reduceEqDiff]
    refine hK9 _ _ ⟨_, _, _, ?_, ⟨r + 1, by omega, rfl, rfl, rfl⟩, ?_⟩
    · first | omega | (simp only [List.length_cons]; omega) | (dsimp only; omega)
    · refine Rt.trans (Rt.gc (keep := [2]) (by decide) (by decide) (by simp [])) ?_
      refine Rt.end (zaa (zaa (zaa (zaq _) (by first | rfl | (simp [frL, gcV, iD, Int.sub_sub, Int.add_assoc]; done) | simp [Fr.put, frL, gcV, fzV, posN, iD, bD, uD, oD, zbj, za9, zbp, zbt, zbm, Int.sub_sub, Int.add_assoc, *])) rfl) rfl) ?_
      simp only [gcH, zb1, zaz, List.map_cons, List.map_nil, List.getD_cons_zero, List.getD_cons_succ]; rw [zkj]; simp [hasB, oD]
  · have hke : r = v := by simp at ht; omega
    have hal : (asgL v i).length = v := by simp [asgL]
    refine zcl (hK3 _ _ ?_)
    refine zac hp zao hc rfl fun K10 hK10 => ?_
    simp -dsimp -implicitDefEqProofs (disch := first | assumption | omega | (simp [maxLen, zab] <;> omega) | decide) only [zal, zag, zaj, ↓reduceIte, q_b, q_f, Nat.reduceEqDiff]
    refine hK10 _ _ ?_
    refine zbc ?_
    show za7 _ _ = _
    simp (disch := first | assumption | omega | (simp [maxLen, zab] <;> omega) | decide) only [za7, retV, zc2, zcn, zcf, zc7, Nat.zero_add, zak, zpa, zbi, ↓reduceIte, Option.map_some, Option.bind_some, Nat.mul_one, List.getElem?_cons_zero, List.length_cons, List.length_nil, za9]
    subst hke
    simp [asgL]
/-! ### Memories -/
def wrdA (l : List Bool) (base : Nat) : Nat → Nat
  | 0 => 0
  | b + 1 => wrdA l base b + if atB l (base + b) then 2 ^ b else 0
theorem wrd_lt (l : List Bool) (base : Nat) : ∀ b, wrdA l base b < 2 ^ b
  | 0 => by simp [wrdA]
  | b + 1 => by
    have := wrd_lt l base b
    have e : 2 ^ (b + 1) = 2 ^ b + 2 ^ b := by rw [Nat.pow_succ]; omega
    unfold wrdA
    split <;> omega
def memA (l : List Bool) (base : Nat) (p : Nat × Nat) : List Int := (List.range p.1).map fun j => (wrdA l (base + j * p.2) p.2 : Nat)
def zjj (base : Nat) (sh : Sh) (l : List Bool) : List (List Int) := (List.range sh.length).map fun i => memA l (zc6 base sh i) (nth sh i)
set_option maxRecDepth 100000 in
set_option linter.unusedVariables false in
set_option maxHeartbeats 4000000 in
theorem mems_c (n : Net) (sh : Sh) (l : List Bool) (hsh : ShOk sh) (hl : l.length ≤ maxLen) (hi : n.ins.length ≤ 10000) : zce Try.prog 36 [netD n, shD sh, za9 l] (.d (zbt (zjj n.ins.length sh l))) := by
  have hs8 := hsh.len
  refine zb7 (fn := Try.f36) (by kernel_rfl) Try.func36 rfl (Nat.le_of_ble_eq_true rfl) fun c hc hp => ?_
  refine zch (τ' := frL [(0, .d (netD n)), (1, .d (shD sh)), (2, .d (za9 l))]) (zaa (zaa (zaa (zaq _) rfl) rfl) rfl) ?_
  refine zac hp zao hc rfl fun K1 hK1 => ?_
  simp -dsimp -implicitDefEqProofs (disch := first | assumption | omega | (simp [maxLen, zab, zad, zan] <;> omega) | decide) only [zag, zdy, zbd, zaj, zae, q_o, layF, ↓reduceIte, q_b, q_f, q_s, q_l, zca, D.one, zbj, za9, zbd, netD, netC, zbw, zbx, shD]
  refine hK1 _ _ ?_
  refine zac hp zao hc rfl fun K2 hK2 => ?_
  simp -dsimp -implicitDefEqProofs (disch := first | assumption | omega | (simp [maxLen, zab, zad, zan] <;> omega) | decide) only [zag, zdw, zbd, zaj, zae, q_o, layF, ↓reduceIte, q_b, ifp, q_f, q_s, q_l, List.replicate_zero, zbv, q_a, q_n, zbd, mk_72]
  refine hK2 _ _ ?_
  refine zac hp zao hc rfl fun K3 hK3 => ?_
  simp -dsimp -implicitDefEqProofs (disch := first | assumption | omega | (simp [maxLen, zab, zad, zan] <;> omega) | decide) only [zag, zat, zb6, zb8, zaj, zae, q_o, za8, zam, lenF, zbe, ↓reduceIte, q_b, ifp, q_f, q_s, q_l, q_n, Nat.reduceEqDiff, Nat.reduceAdd, zgq, zkc, zkd, znp]
  refine hK3 _ _ ?_
  refine zas fun K4 hK4 => ?_
  refine zac hp zao hc rfl fun K5 hK5 => ?_
  simp -dsimp -implicitDefEqProofs (disch := first | assumption | omega | (simp [maxLen, zab, zad, zan] <;> omega) | decide) only [zag, zaj, q_f]
  refine hK5 _ _ ?_
  refine zbg ?_
  refine zby hp (fun τ' H' mm => ∃ (k : Nat), (k ≤ sh.length) ∧ mm = sh.length - k ∧ H' = [.cells (avs (((List.range k).map fun i => memA l (zc6 n.ins.length sh i) (nth sh i)).map zbj))] ∧ τ' = frL [(1, .d (shD sh)), (2, .d (za9 l)), (7, .os 1 0 0 k), (8, .d (iD (zc6 n.ins.length sh k))), (9, .d (iD k))]) (sh.length) ?_ ⟨0, Nat.zero_le _, rfl, rfl, rfl⟩ ?_
  · refine Rt.trans (Rt.gc (keep := [1]) (by decide) (by decide) (by simp [])) ?_
    refine Rt.end (zaa (zaa (zaa (zaa (zaa (zaq _) rfl) rfl) rfl) rfl) rfl) ?_
    simp only [gcH, zb1, gcVs, List.map_cons, List.map_nil, List.getD_cons_zero, List.getD_cons_succ]; simp; rfl
  rintro τ' H' mm ⟨k, hk, rfl, rfl, rfl⟩
  refine zas fun K6 hK6 => ?_
  refine zac hp zao hc rfl fun K7 hK7 => ?_
  simp -dsimp -implicitDefEqProofs (disch := first | assumption | omega | (simp [maxLen, zab, zad, zan] <;> omega) | decide) only [zal, za1, zb8, zaj, zae, q_o, zay, lenF, zbe, zcz, ↓reduceIte, q_b, q_f, q_s, Nat.reduceEqDiff, iD, za9, shD, zjv]
  refine hK7 _ _ ?_
  refine zau rfl (fun ht => ?_) (fun ht => ?_)
  · have hlt : k < sh.length := by simp at ht; omega
    have fb := zse (base := n.ins.length) hsh (k := k) (by omega)
    have hel := hsh.el k hlt
    have hmm := Nat.mul_le_mul hel.1 hel.2
    refine zbb (hK6 _ _ ?_)
    refine zas fun K8 hK8 => ?_
    refine zbg ?_
    refine zac hp zao hc rfl fun K9 hK9 => ?_
    simp -dsimp -implicitDefEqProofs (disch := first | assumption | omega | (simp [maxLen, zab, zad, zan] <;> omega) | decide) only [zag, zdw, zbd, zaj, zae, q_o, layF, ↓reduceIte, q_b, ifp, q_f, q_s, q_l, List.replicate_zero, zbv, q_a, q_n, zbd, zgp]
    refine hK9 _ _ ?_
    refine zas fun K10 hK10 => ?_
    refine zac hp zao hc rfl fun K11 hK11 => ?_
    simp -dsimp -implicitDefEqProofs (disch := first | assumption | omega | (simp [maxLen, zab, zad, zan] <;> omega) | decide) only [zag, zaj, q_f]
    refine hK11 _ _ ?_
    refine zbg ?_
    refine zby hp (fun τ' H' mm => ∃ (j : Nat), (j ≤ (nth sh k).1) ∧ mm = (nth sh k).1 - j ∧ H' = [.cells (avs (((List.range k).map fun i => memA l (zc6 n.ins.length sh i) (nth sh i)).map zbj)), .cells (avs (((List.range j).map fun j => ((wrdA l (zc6 n.ins.length sh k + j * (nth sh k).2) (nth sh k).2 : Nat) : Int)).map iD))] ∧ τ' = frL [(1, .d (shD sh)), (2, .d (za9 l)), (7, .os 1 0 0 k), (8, .d (iD ((zc6 n.ins.length sh k + j * (nth sh k).2 : Nat) : Int))), (9, .d (iD k)), (10, .os 1 1 0 j), (11, .d (iD j))]) ((nth sh k).1) ?_ ⟨0, Nat.zero_le _, rfl, rfl, rfl⟩ ?_
    · refine Rt.end (zaa (zaa (zaa (zaa (zaa (zaa (zaa (zaq _) rfl) rfl) rfl) (by first | rfl | (simp [frL, iD]; done) | simp [Fr.put, frL, gcV, fzV, posN, iD, bD, uD, oD, zbj, za9, zbp, zbt, zbm, zad, zan, Int.add_assoc, *])) rfl) rfl) rfl) ?_
      first | rfl | (simp only [zbj, za9, zbp, zbt, zbm, gcH, zb1, zcb, zcc, gc_m, fz_m, zaz, gcVs, gcV, zcy, fzH, zc0, zb9, zcd, zbl, Nat.reduceAdd, fzVs, fzV, posN, zav, zap, List.map_cons, List.map_nil, List.getD_cons_zero, List.getD_cons_succ, ↓reduceIte, Nat.reduceEqDiff, Option.map_some, List.set_cons_zero, List.set_cons_succ, zba, zak, Nat.mul_one, List.length_map, List.cons_append, List.nil_append, netD, netC, zbw, zbx, shD]; first | done | rfl)
    rintro τ' H' mm ⟨j, hj, rfl, rfl, rfl⟩
    refine zas fun K12 hK12 => ?_
    refine zac hp zao hc rfl fun K13 hK13 => ?_
    simp -dsimp -implicitDefEqProofs (disch := first | assumption | omega | (simp [maxLen, zab, zad, zan] <;> omega) | decide) only [zal, zat, zdo, za1, zaj, zae, q_o, za8, ixO, za2, zay, zcz, ↓reduceIte, q_b, ifp, q_f, Int.toNat_natCast, q_n, Nat.reduceEqDiff, iD, za9, Int.toNat_zero, shD, sh_0, zjv, zp8, sz_3, ag_3]
    refine hK13 _ _ ?_
    refine zau rfl (fun ht => ?_) (fun ht => ?_)
    · have hjl : j < (nth sh k).1 := by simp at ht; omega
      have hjb := Nat.mul_le_mul (Nat.le_of_lt hjl) hel.2
      refine zbb (hK12 _ _ ?_)
      refine zas fun K14 hK14 => ?_
      refine zbg ?_
      refine zac hp zao hc rfl fun K15 hK15 => ?_
      simp -dsimp -implicitDefEqProofs (disch := first | assumption | omega | (simp [maxLen, zab, zad, zan] <;> omega) | decide) only [zag, zaj, q_f]
      refine hK15 _ _ ?_
      refine zas fun K16 hK16 => ?_
      refine zac hp zao hc rfl fun K17 hK17 => ?_
      simp -dsimp -implicitDefEqProofs (disch := first | assumption | omega | (simp [maxLen, zab, zad, zan] <;> omega) | decide) only [zag, zaj, q_f]
      refine hK17 _ _ ?_
      refine zbg ?_
      refine zby hp (fun τ' H' mm => ∃ (b : Nat), (b ≤ (nth sh k).2) ∧ mm = (nth sh k).2 - b ∧ H' = [.cells (avs (((List.range k).map fun i => memA l (zc6 n.ins.length sh i) (nth sh i)).map zbj)), .cells (avs (((List.range j).map fun j => ((wrdA l (zc6 n.ins.length sh k + j * (nth sh k).2) (nth sh k).2 : Nat) : Int)).map iD))] ∧ τ' = frL [(1, .d (shD sh)), (2, .d (za9 l)), (7, .os 1 0 0 k), (8, .d (iD ((zc6 n.ins.length sh k + j * (nth sh k).2 + b : Nat) : Int))), (9, .d (iD k)), (10, .os 1 1 0 j), (11, .d (iD j)), (12, .d (iD (wrdA l (zc6 n.ins.length sh k + j * (nth sh k).2) b : Nat))), (13, .d (iD b))]) ((nth sh k).2) ?_ ⟨0, Nat.zero_le _, rfl, rfl, rfl⟩ ?_
      · refine Rt.end (zaa (zaa (zaa (zaa (zaa (zaa (zaa (zaa (zaa (zaq _) rfl) rfl) rfl) rfl) rfl) rfl) rfl) rfl) rfl) ?_
        first | rfl | (simp only [zbj, za9, zbp, zbt, zbm, gcH, zb1, zcb, zcc, gc_m, fz_m, zaz, gcVs, gcV, zcy, fzH, zc0, zb9, zcd, zbl, Nat.reduceAdd, fzVs, fzV, posN, zav, zap, List.map_cons, List.map_nil, List.getD_cons_zero, List.getD_cons_succ, ↓reduceIte, Nat.reduceEqDiff, Option.map_some, List.set_cons_zero, List.set_cons_succ, zba, zak, Nat.mul_one, List.length_map, List.cons_append, List.nil_append, netD, netC, zbw, zbx, shD]; first | done | rfl)
      rintro τ' H' mm ⟨b, hb, rfl, rfl, rfl⟩
      refine zas fun K18 hK18 => ?_
      refine zac hp zao hc rfl fun K19 hK19 => ?_
      simp -dsimp -implicitDefEqProofs (disch := first | assumption | omega | (simp [maxLen, zab, zad, zan] <;> omega) | decide) only [zal, zat, zdo, za1, zaj, zae, q_o, za8, ixO, za2, zay, zcz, ↓reduceIte, q_b, ifp, q_f, Int.toNat_natCast, q_n, Nat.reduceEqDiff, iD, za9, Int.reduceToNat, shD, sh_1, zjv, zp8, sz_3, ag_3]
      refine hK19 _ _ ?_
      refine zau rfl (fun ht => ?_) (fun ht => ?_)
      · have hbl : b < (nth sh k).2 := by simp at ht; omega
        refine zbb (hK18 _ _ ?_)
        refine zas fun K20 hK20 => ?_
        refine zbg ?_
        refine zas fun K21 hK21 => ?_
        refine zac hp zao hc rfl fun K22 hK22 => ?_
        simp -dsimp -implicitDefEqProofs (disch := first | assumption | omega | (simp [maxLen, zab, zad, zan] <;> omega) | decide) only [zal, zbh, ↓reduceIte, q_b, q_f, q_s, q_l, q_n, Nat.reduceEqDiff, Nat.reduceAdd]
        have hb8 : b < 8 := by omega
        have hp2 : 2 ^ b ≤ 128 := by have : (2 : Nat) ^ b ≤ 2 ^ 7 := Nat.pow_le_pow_right (by decide) (by omega); omega
        have hwl := wrd_lt l (zc6 n.ins.length sh k + j * (nth sh k).2) b
        have hw : IntKind.i64.wrap (1 * 2 ^ min b 64) = ((2 ^ b : Nat) : Int) := zku (a := 1) (by omega) (by omega) (by omega)
        have hu : IntKind.u64.wrap (b : Int) = b := zrt (by omega) (by omega)
        refine zda (at_c l (zc6 n.ins.length sh k + j * (nth sh k).2 + b) hl (by omega)) rfl ?_
        simp -dsimp -implicitDefEqProofs (disch := first | assumption | omega | (simp [maxLen, zab, zad, zan] <;> omega) | decide) only [zaj, q_f, oD]
        refine hK22 _ _ ?_
        refine zau rfl (fun ht => ?_) (fun ht => ?_)
        · have hw1 : ((wrdA l (zc6 n.ins.length sh k + j * (nth sh k).2) (b + 1) : Nat) : Int) = (wrdA l (zc6 n.ins.length sh k + j * (nth sh k).2) b : Nat) + ((2 ^ b : Nat) : Int) := by rw [wrdA, if_pos ht]; push_cast; rfl
          refine zcw hp zao hc rfl fun K23 hK23 => ?_
          simp -dsimp -implicitDefEqProofs (disch := first | assumption | omega | (simp [maxLen, zab, zad, zan] <;> omega) | decide) only [zal, zag, za1, ze8, zaj, zae, q_o, zay, zgx, zcu, zp5, ↓reduceIte, q_b, q_f, Int.toNat_natCast, Nat.reduceEqDiff, hu, hw, ik_3, ik_78]
          refine hK23 _ _ (hK21 _ _ ?_)
          refine zcw hp zao hc rfl fun K24 hK24 => ?_
          simp -dsimp -implicitDefEqProofs (disch := first | assumption | omega | (simp [maxLen, zab, zad, zan] <;> omega) | decide) only [zal, zag, za1, zaj, zae, q_o, zay, zcu, ↓reduceIte, q_b, q_f, Nat.reduceEqDiff]
          refine hK24 _ _ (hK20 _ _ ?_)
          refine zcw hp zao hc rfl fun K25 hK25 => ?_
          simp -dsimp -implicitDefEqProofs (disch := first | assumption | omega | (simp [maxLen, zab, zad, zan] <;> omega) | decide) only [zal, zag, za1, zaj, zae, q_o, zay, zcu, ↓reduceIte, q_b, q_f, Nat.reduceEqDiff]
          refine hK25 _ _ ⟨_, _, _, ?_, ⟨b + 1, by omega, rfl, rfl, rfl⟩, ?_⟩
          · first | omega | (simp only [List.length_cons]; omega) | (dsimp only; omega)
          · refine Rt.end (zaa (zaa (zaa (zaa (zaa (zaa (zaa (zaa (zaa (zaq _) rfl) (by first | rfl | (simp [frL, iD]; done) | simp [frL, iD, *])) rfl) rfl) rfl) rfl) rfl) rfl) rfl) ?_
            first | rfl | (simp only [zbj, za9, zbp, zbt, zbm, gcH, zb1, zcb, zcc, gc_m, fz_m, zaz, gcVs, gcV, zcy, fzH, zc0, zb9, zcd, zbl, Nat.reduceAdd, fzVs, fzV, posN, zav, zap, List.map_cons, List.map_nil, List.getD_cons_zero, List.getD_cons_succ, ↓reduceIte, Nat.reduceEqDiff, Option.map_some, List.set_cons_zero, List.set_cons_succ, zba, zak, Nat.mul_one, List.length_map, List.cons_append, List.nil_append, netD, netC, zbw, zbx, shD]; first | done | rfl)
        · have hw1 : wrdA l (zc6 n.ins.length sh k + j * (nth sh k).2) (b + 1) = wrdA l (zc6 n.ins.length sh k + j * (nth sh k).2) b := by rw [wrdA, if_neg (by rw [ht]; decide)]; rfl
          refine zbb (hK21 _ _ ?_)
          refine zcw hp zao hc rfl fun K26 hK26 => ?_
          simp -dsimp -implicitDefEqProofs (disch := first | assumption | omega | (simp [maxLen, zab, zad, zan] <;> omega) | decide) only [zal, zag, za1, zaj, zae, q_o, zay, zcu, ↓reduceIte, q_b, q_f, Nat.reduceEqDiff]
          refine hK26 _ _ (hK20 _ _ ?_)
          refine zcw hp zao hc rfl fun K27 hK27 => ?_
          simp -dsimp -implicitDefEqProofs (disch := first | assumption | omega | (simp [maxLen, zab, zad, zan] <;> omega) | decide) only [zal, zag, za1, zaj, zae, q_o, zay, zcu, ↓reduceIte, q_b, q_f, Nat.reduceEqDiff]
          refine hK27 _ _ ⟨_, _, _, ?_, ⟨b + 1, by omega, rfl, rfl, rfl⟩, ?_⟩
          · first | omega | (simp only [List.length_cons]; omega) | (dsimp only; omega)
          · refine Rt.end (zaa (zaa (zaa (zaa (zaa (zaa (zaa (zaa (zaa (zaq _) rfl) (by first | rfl | (simp [frL, iD]; done) | simp [frL, iD, *])) rfl) rfl) rfl) rfl) rfl) rfl) rfl) ?_
            first | rfl | (simp only [zbj, za9, zbp, zbt, zbm, gcH, zb1, zcb, zcc, gc_m, fz_m, zaz, gcVs, gcV, zcy, fzH, zc0, zb9, zcd, zbl, Nat.reduceAdd, fzVs, fzV, posN, zav, zap, List.map_cons, List.map_nil, List.getD_cons_zero, List.getD_cons_succ, ↓reduceIte, Nat.reduceEqDiff, Option.map_some, List.set_cons_zero, List.set_cons_succ, zba, zak, Nat.mul_one, List.length_map, List.cons_append, List.nil_append, netD, netC, zbw, zbx, shD]; first | done | rfl)
      · have hbe : b = (nth sh k).2 := by simp at ht; omega
        have hs1 : zc6 n.ins.length sh k + (j + 1) * (nth sh k).2 = zc6 n.ins.length sh k + j * (nth sh k).2 + (nth sh k).2 := by rw [Nat.succ_mul]; omega
        refine zcl (hK16 _ _ ?_)
        refine zcw hp zao hc rfl fun K28 hK28 => ?_
        simp -dsimp -implicitDefEqProofs (disch := first | assumption | omega | (simp [maxLen, zab, zad, zan] <;> omega) | decide) only [zal, zag, zdw, zd6, zbd, zaj, zae, q_o, layF, srcF, ↓reduceIte, q_b, ifp, ifn, q_f, q_s, q_l, List.append_nil, List.replicate_zero, List.replicate_succ, zbv, q_a, zbn, q_n, Nat.reduceEqDiff, zab, zcv, zak, List.drop_zero, Nat.reduceAdd, zbd, List.length_map, zgp]
        refine hK28 _ _ (hK14 _ _ ?_)
        refine zcw hp zao hc rfl fun K29 hK29 => ?_
        simp -dsimp -implicitDefEqProofs (disch := first | assumption | omega | (simp [maxLen, zab, zad, zan] <;> omega) | decide) only [zal, zag, za1, zaj, zae, q_o, zay, zcu, ↓reduceIte, q_b, q_f, Nat.reduceEqDiff]
        refine hK29 _ _ ⟨_, _, _, ?_, ⟨j + 1, by omega, rfl, rfl, rfl⟩, ?_⟩
        · first | omega | (simp only [List.length_cons]; omega) | (dsimp only; omega)
        · refine Rt.trans (Rt.gc (keep := [0,3]) (by decide) (by decide) (by simp [])) ?_
          refine Rt.end (zaa (zaa (zaa (zaa (zaa (zaa (zaa (zaq _) rfl) rfl) rfl) (by first | rfl | (simp [frL, gcV, iD, Int.add_assoc]; done) | simp [frL, gcV, iD, Int.add_assoc, *])) rfl) rfl) rfl) ?_
          simp only [gcH, zb1, zaz, List.map_cons, List.map_nil, List.getD_cons_zero, List.getD_cons_succ]; rw [zkj, hbe]; simp [iD]
    · have hje : j = (nth sh k).1 := by simp at ht; omega
      have hs1 : zc6 n.ins.length sh (k + 1) = zc6 n.ins.length sh k + j * (nth sh k).2 := by rw [zhp hlt, hje]
      refine zcl (hK10 _ _ ?_)
      refine zcw hp zao hc rfl fun K30 hK30 => ?_
      simp -dsimp -implicitDefEqProofs (disch := first | assumption | omega | (simp [maxLen, zab, zad, zan] <;> omega) | decide) only [zal, zag, zdw, zd6, zbd, zaj, zae, q_o, layF, srcF, ↓reduceIte, q_b, ifp, ifn, q_f, q_s, q_l, List.replicate_zero, List.replicate_succ, zbv, q_a, zbn, zga, q_n, Nat.reduceEqDiff, zab, zak, List.drop_zero, Nat.reduceAdd, zbd, List.length_map, mk_72]
      refine hK30 _ _ (hK8 _ _ ?_)
      refine zcw hp zao hc rfl fun K31 hK31 => ?_
      simp -dsimp -implicitDefEqProofs (disch := first | assumption | omega | (simp [maxLen, zab, zad, zan] <;> omega) | decide) only [zal, zag, za1, zaj, zae, q_o, zay, zcu, ↓reduceIte, q_b, q_f, Nat.reduceEqDiff]
      refine hK31 _ _ ⟨_, _, _, ?_, ⟨k + 1, by omega, rfl, rfl, rfl⟩, ?_⟩
      · first | omega | (simp only [List.length_cons]; omega) | (dsimp only; omega)
      · refine Rt.trans (Rt.fz (id := 1) rfl) ?_
        refine Rt.trans (Rt.gc (keep := [3]) (by decide) (by decide) (by simp [fzH])) ?_
        refine Rt.end (zaa (zaa (zaa (zaa (zaa (zaq _) rfl) (by first | rfl | (simp [frL, gcV, fzV, iD]; done) | simp [frL, gcV, fzV, iD, *])) rfl) rfl) rfl) ?_
        simp only [gcH, zb1, fzH, zc0, zb9, fzVs, fzV, List.map_cons, List.map_nil, List.getD_cons_zero, List.getD_cons_succ, ↓reduceIte, List.set_cons_zero, List.set_cons_succ, Nat.mul_one]; rw [zkj]; simp only [fzVs_app, gcVs_app, memA, hje, zbj, List.map_append, List.map_cons, List.map_nil]; simp (disch := simp) only [fz_all, zcy, zcv, List.append_nil, List.length_map, List.length_range]
  · have hke : k = sh.length := by simp at ht; omega
    have hml : (zjj n.ins.length sh l).length = sh.length := by simp [zjj]
    refine zcl (hK4 _ _ ?_)
    refine zac hp zao hc rfl fun K32 hK32 => ?_
    simp -dsimp -implicitDefEqProofs (disch := first | assumption | omega | (simp [maxLen, zab, zad, zan] <;> omega) | decide) only [zal, zag, zaj, ↓reduceIte, q_b, q_f, Nat.reduceEqDiff]
    refine hK32 _ _ ?_
    refine zbc ?_
    show za7 _ _ = _
    simp (disch := first | assumption | omega | (simp [maxLen, zab, zad, zan] <;> omega) | decide) only [za7, retV, zc2, zcn, zcf, zc7, Nat.zero_add, zak, zrq, zbi, ↓reduceIte, Option.map_some, Option.bind_some, Nat.mul_one, List.getElem?_cons_zero, List.length_cons, List.length_nil, zbt]
    subst hke
    rw [hml]; rfl
end Go.Proofs.Ytgfnpfchdlcoeaa
