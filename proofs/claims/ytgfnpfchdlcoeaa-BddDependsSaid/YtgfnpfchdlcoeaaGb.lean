/- The law's tables: the values of all nodes for all assignments. -/
import Derived.Test.YtgfnpfchdlcoeaaQ
import Derived.Test.YtgfnpfchdlcoeaaGa
set_option linter.unusedVariables false
set_option linter.unusedSimpArgs false
namespace Go.Proofs.Ytgfnpfchdlcoeaa
open Go Go.RowKit
/-- The values of all nodes for one assignment. -/
def evA (n : Net) (sh : Sh) (j : Nat) : List Bool := zt2 n.gates (inpA n.ins.length (asgL (zcr n.ins.length sh) j)) (zjj n.ins.length sh (asgL (zcr n.ins.length sh) j))
theorem evA_len (n : Net) (sh : Sh) (j : Nat) : (evA n sh j).length = 2 + n.ins.length + n.gates.length := evalN_len _ _ _ _
def rowT (n : Net) (sh : Sh) (k i : Nat) : List Bool := (List.range i).map fun j => nth (evA n sh j) k
theorem rowT_len (n : Net) (sh : Sh) (k i : Nat) : (rowT n sh k i).length = i := by simp [rowT]
theorem rowT_s (n : Net) (sh : Sh) (k i : Nat) : rowT n sh k (i + 1) = rowT n sh k i ++ [nth (evA n sh i) k] := zkj
/-- The table while assignment i is being filled in, up to node c. -/
def tabT (n : Net) (sh : Sh) (c i : Nat) : List (List D) := (List.range (2 + n.ins.length + n.gates.length)).map fun k => (rowT n sh k (if k < c then i + 1 else i)).map oD
theorem zjl (n : Net) (sh : Sh) (c i : Nat) : (tabT n sh c i).length = 2 + n.ins.length + n.gates.length := by simp [tabT]
theorem tabT_00 (n : Net) (sh : Sh) : tabT n sh 0 0 = List.replicate (2 + n.ins.length + n.gates.length) [] := by
  refine List.ext_getElem (by simp [tabT]) fun i h1 h2 => ?_
  simp [tabT, rowT]
theorem tabT_end (n : Net) (sh : Sh) (i : Nat) : tabT n sh (2 + n.ins.length + n.gates.length) i = tabT n sh 0 (i + 1) := by
  refine List.map_congr_left fun k hk => ?_
  rw [List.mem_range] at hk
  rw [if_pos hk, if_neg (by omega)]
theorem tabT_at {n : Net} {sh : Sh} {c i k : Nat} (h : k < 2 + n.ins.length + n.gates.length) : nth (tabT n sh c i) k = (rowT n sh k (if k < c then i + 1 else i)).map oD := zdj h
theorem tabT_s {n : Net} {sh : Sh} {c i : Nat} (h : c < 2 + n.ins.length + n.gates.length) : (tabT n sh c i).set c ((rowT n sh c i).map oD ++ [oD (nth (evA n sh i) c)]) = tabT n sh (c + 1) i := by
  refine List.ext_getElem (by simp [tabT]) fun k h1 h2 => ?_
  have hk : k < 2 + n.ins.length + n.gates.length := by rw [zjl] at h2; exact h2
  rw [List.getElem_set]
  split
  · rename_i e
    subst e
    simp [tabT, rowT_s, oD]
  · rename_i e
    simp only [tabT, List.getElem_map, List.getElem_range]
    congr 2
    split <;> split <;> first | rfl | omega
def zc9 (l : List (List Bool)) : D := .fs (l.map za9) l.length
def zjz (n : Net) (sh : Sh) : List (List Bool) := (List.range (2 + n.ins.length + n.gates.length)).map fun k => rowT n sh k (2 ^ zcr n.ins.length sh)
theorem tab_fss (n : Net) (sh : Sh) (i : Nat) (h : i = 2 ^ zcr n.ins.length sh) : fss (tabT n sh 0 i) = (zjz n sh).map za9 := by
  unfold fss tabT zjz
  rw [List.map_map, List.map_map]
  refine List.map_congr_left fun k hk => ?_
  simp [h, za9]
theorem app_at {l r : za0} {m : Nat} (h : l.length = m) : (l ++ r)[m]? = r[0]? := by subst h; rw [List.getElem?_append_right (Nat.le_refl _), Nat.sub_self]
theorem app_at1 {l r : za0} {m : Nat} (h : l.length = m) : (l ++ r)[m + 1]? = r[1]? := by subst h; rw [List.getElem?_append_right (by omega)]; congr 1; omega
theorem app_set {l r : za0} {m : Nat} {x : AObj} (h : l.length = m) : (l ++ r).set m x = l ++ r.set 0 x := by subst h; rw [List.set_append_right _ _ (Nat.le_refl _), Nat.sub_self]
theorem app_set1 {l r : za0} {m : Nat} {x : AObj} (h : l.length = m) : (l ++ r).set (m + 1) x = l ++ r.set 1 x := by subst h; rw [List.set_append_right _ _ (by omega), show l.length + 1 - l.length = 1 by omega]
set_option maxRecDepth 100000 in
set_option linter.unusedVariables false in
set_option maxHeartbeats 4000000 in
theorem zos (n : Net) (sh : Sh) (hnb : NetB n) (hsh : ShOk sh) (hv : zcr n.ins.length sh ≤ 20) : zce Try.prog 37 [netD n, shD sh] (.d (zc9 (zjz n sh))) := by
  have hi9 := hnb.i1
  have hg200 := hnb.g1
  obtain ⟨P, hP⟩ : ∃ P, P = 2 ^ zcr n.ins.length sh := ⟨_, rfl⟩
  have hp3 : P ≤ 1048576 := by rw [hP]; exact Nat.le_trans (Nat.pow_le_pow_right (by decide) hv) (show 2 ^ 20 ≤ 1048576 by decide)
  have hu : IntKind.u64.wrap (zcr n.ins.length sh : Int) = zcr n.ins.length sh := zrt (by omega) (by omega)
  have hw : IntKind.i64.wrap (1 * 2 ^ min (zcr n.ins.length sh) 64) = (P : Int) := by rw [hP]; exact zku (a := 1) (by omega) (by omega) (by omega)
  have hw' : IntKind.i64.wrap (2 ^ min (zcr n.ins.length sh) 64) = (P : Int) := by rw [← hw, Int.one_mul]
  refine zb7 (fn := Try.f37) (by kernel_rfl) Try.func37 rfl (Nat.le_of_ble_eq_true rfl) fun c hc hp => ?_
  refine zch (τ' := frL [(0, .d (netD n)), (1, .d (shD sh))]) (zaa (zaa (zaq _) rfl) rfl) ?_
  refine zac hp zao hc rfl fun K1 hK1 => ?_
  simp -dsimp -implicitDefEqProofs (disch := first | assumption | omega | (simp [maxLen, zab, zad, zaf, zan] <;> omega) | decide) only [zag, zdy, zbd, zaj, zae, q_o, layF, ↓reduceIte, q_b, q_f, q_s, q_l, zca, D.one, zbj, zbd, netD, netC, zbw, zbx, shD]
  refine hK1 _ _ ?_
  refine zac hp zao hc rfl fun K2 hK2 => ?_
  simp -dsimp -implicitDefEqProofs (disch := first | assumption | omega | (simp [maxLen, zab, zad, zaf, zan] <;> omega) | decide) only [zal, zat, zbh, zae, q_o, za8, ↓reduceIte, q_b, ifp, q_f, q_s, q_l, q_n, Nat.reduceEqDiff, zak, zes, zfi]
  refine zda (vars_c n sh hsh (by omega)) rfl ?_
  simp -dsimp -implicitDefEqProofs (disch := first | assumption | omega | (simp [maxLen, zab, zad, zaf, zan] <;> omega) | decide) only [zag, zaj, ↓reduceIte, q_b, q_f, iD]
  refine hK2 _ _ ?_
  refine zac hp zao hc rfl fun K3 hK3 => ?_
  simp -dsimp -implicitDefEqProofs (disch := first | assumption | omega | (simp [maxLen, zab, zad, zaf, zan] <;> omega) | decide) only [zat, zbh, zae, q_o, za8, ↓reduceIte, q_b, ifp, q_f, q_s, q_l, q_n, Nat.reduceEqDiff, zak, zes, zfi]
  refine zda (zit n (by omega) (by omega)) rfl ?_
  simp -dsimp -implicitDefEqProofs (disch := first | assumption | omega | (simp [maxLen, zab, zad, zaf, zan] <;> omega) | decide) only [zag, zlk, zbd, zaj, zae, ixO, layF, ↓reduceIte, q_b, ifp, q_f, q_l, q_s, zbv, q_n, iD, zbd, zgz, mk_75]
  refine hK3 _ _ ?_
  refine zas fun K4 hK4 => ?_
  refine zac hp zao hc rfl fun K5 hK5 => ?_
  simp -dsimp -implicitDefEqProofs (disch := first | assumption | omega | (simp [maxLen, zab, zad, zaf, zan] <;> omega) | decide) only [zag, zaj, q_f]
  refine hK5 _ _ ?_
  refine zbg ?_
  refine zby hp (fun τ' H' mm => ∃ (i : Nat), (i ≤ P) ∧ mm = P - i ∧ H' = .cells (avs (netC n)) :: .cells (hdl 2 (tabT n sh 0 i)) :: zef (tabT n sh 0 i) ∧ τ' = frL [(1, .d (shD sh)), (2, .op 0 0), (5, .d (iD (zcr n.ins.length sh))), (6, .os 1 1 0 (2 + n.ins.length + n.gates.length)), (7, .d (iD i))]) (P) ?_ ⟨0, Nat.zero_le _, rfl, rfl, rfl⟩ ?_
  · refine Rt.trans (Rt.rows (2 + n.ins.length + n.gates.length)) ?_
    refine Rt.end (zaa (zaa (zaa (zaa (zaa (zaq _) rfl) rfl) rfl) rfl) rfl) ?_
    simp only [zbj, zav, zap, netC, zbw, zbx]; rw [tabT_00]
  rintro τ' H' mm ⟨i, hi, rfl, rfl, rfl⟩
  refine zas fun K6 hK6 => ?_
  refine zac hp zao hc rfl fun K7 hK7 => ?_
  simp -dsimp -implicitDefEqProofs (disch := first | assumption | omega | (simp [maxLen, zab, zad, zaf, zan] <;> omega) | decide) only [zal, za1, ze8, zaj, zae, q_o, zay, zgx, zcz, zp5, ↓reduceIte, q_b, q_f, Int.toNat_natCast, Nat.reduceEqDiff, zav, zap, iD, zbj, netC, zbw, zbx, shD, hu, hw, ik_3, ik_78]
  refine hK7 _ _ ?_
  refine zau rfl (fun ht => ?_) (fun ht => ?_)
  · have hlt : i < P := by simp at ht; omega
    refine zbb (hK6 _ _ ?_)
    refine zas fun K8 hK8 => ?_
    refine zbg ?_
    refine zac hp zao hc rfl fun K9 hK9 => ?_
    simp -dsimp -implicitDefEqProofs (disch := first | assumption | omega | (simp [maxLen, zab, zad, zaf, zan] <;> omega) | decide) only [zal, zbh, ↓reduceIte, q_b, q_f, q_s, q_l, Nat.reduceEqDiff]
    refine zda (asg_c (zcr n.ins.length sh) i (by omega)) rfl ?_
    simp -dsimp -implicitDefEqProofs (disch := first | assumption | omega | (simp [maxLen, zab, zad, zaf, zan] <;> omega) | decide) only [zag, zaj, ↓reduceIte, q_b, q_f, za9]
    refine hK9 _ _ ?_
    refine zcs zao hc mixed rfl (q := 0) (by kernel_rfl) (by kernel_rfl) fun K10 hK10 => ?_
    simp -dsimp -implicitDefEqProofs (disch := first | assumption | omega | (simp [maxLen, zab, zad, zaf, zan] <;> omega) | decide) only [zco, zcq, zd5, zae, q_o, za8, ↓reduceIte, q_b, ifp, q_f, q_s, q_l, List.append_nil, List.replicate_zero, q_n, Nat.reduceEqDiff, zak, Nat.reduceAdd, zes, zfi]
    refine zda (inputs_c n (asgL (zcr n.ins.length sh) i) (by simp [asgL]; unfold maxLen; omega) (by omega) (by omega)) rfl ?_
    simp -dsimp -implicitDefEqProofs (disch := first | assumption | omega | (simp [maxLen, zab, zad, zaf, zan] <;> omega) | decide) only [zco, zcq, zd5, zae, q_o, za8, ↓reduceIte, q_b, ifp, q_f, q_s, q_l, Nat.reduceEqDiff, zak, za9, Nat.reduceAdd, zes, zfi]
    refine zda (mems_c n sh (asgL (zcr n.ins.length sh) i) hsh (by simp [asgL]; unfold maxLen; omega) (by omega)) rfl ?_
    simp -dsimp -implicitDefEqProofs (disch := first | assumption | omega | (simp [maxLen, zab, zad, zaf, zan] <;> omega) | decide) only [zd5, ↓reduceIte, q_b, q_f, q_s, Nat.reduceEqDiff, zbt, Nat.reduceAdd]
    refine zda (eval_c n (inpA n.ins.length (asgL (zcr n.ins.length sh) i)) (zjj n.ins.length sh (asgL (zcr n.ins.length sh) i)) (by rw [znb]; exact hnb.g2) (by rw [znb]; omega) (by omega)) rfl ?_
    simp -dsimp -implicitDefEqProofs (disch := first | assumption | omega | (simp [maxLen, zab, zad, zaf, zan] <;> omega) | decide) only [zdh, zc4, ↓reduceIte, q_b, q_f, killAll, za9, Nat.reduceAdd]
    have hel := evA_len n sh i
    obtain ⟨v, hv⟩ : ∃ v, v = evA n sh i := ⟨_, rfl⟩
    have hv' : zt2 n.gates (inpA n.ins.length (asgL (zcr n.ins.length sh) i)) (zjj n.ins.length sh (asgL (zcr n.ins.length sh) i)) = v := hv.symm
    rw [hv']
    rw [← hv] at hel
    have qa : ((v.length : Int) != 2 + (n.ins.length : Int) + n.gates.length) = false := by simp; omega
    have qb : ((v.length : Int) != ((2 + n.ins.length + n.gates.length : Nat) : Int)) = false := by rw [hel]; simp
    refine hK10 _ _ ?_
    refine zas fun K11 hK11 => ?_
    refine zac hp zao hc rfl fun K12 hK12 => ?_
    simp -dsimp -implicitDefEqProofs (disch := first | assumption | omega | (simp [maxLen, zab, zad, zaf, zan] <;> omega) | decide) only [zal, za1, zb8, zaj, zae, q_o, zay, lenF, zbe, zff, ↓reduceIte, q_b, q_f, q_s, Nat.reduceEqDiff, qb, zhy, zm6]
    refine hK12 _ _ ?_
    refine zau rfl (fun ht => ?_) (fun ht => ?_)
    · cases ht
    · refine zbb (hK11 _ _ ?_)
      refine zac hp zao hc rfl fun K13 hK13 => ?_
      simp -dsimp -implicitDefEqProofs (disch := first | assumption | omega | (simp [maxLen, zab, zad, zaf, zan] <;> omega) | decide) only [zag, zaj, q_f]
      refine hK13 _ _ ?_
      refine zbg ?_
      refine zby hp (fun τ' H' mm => ∃ (k : Nat), (k ≤ 2 + n.ins.length + n.gates.length) ∧ mm = 2 + n.ins.length + n.gates.length - k ∧ H' = .cells (avs (netC n)) :: .cells (hdl 2 (tabT n sh k i)) :: zef (tabT n sh k i) ∧ τ' = frL [(1, .d (shD sh)), (2, .op 0 0), (5, .d (iD (zcr n.ins.length sh))), (6, .os 1 1 0 (2 + n.ins.length + n.gates.length)), (7, .d (iD i)), (9, .d (za9 v)), (10, .d (iD k))]) (2 + n.ins.length + n.gates.length) ?_ ⟨0, Nat.zero_le _, rfl, rfl, rfl⟩ ?_
      · refine Rt.end (zaa (zaa (zaa (zaa (zaa (zaa (zaa (zaq _) rfl) rfl) rfl) rfl) rfl) rfl) rfl) ?_
        first | rfl | (simp only [zbj, za9, zbp, zbt, zbm, gcH, zb1, zcb, zcc, gc_m, fz_m, zaz, gcVs, gcV, zcy, fzH, zc0, zb9, zcd, zbl, Nat.reduceAdd, fzVs, fzV, posN, zav, zap, List.map_cons, List.map_nil, List.getD_cons_zero, List.getD_cons_succ, ↓reduceIte, Nat.reduceEqDiff, Option.map_some, List.set_cons_zero, List.set_cons_succ, zba, zak, Nat.mul_one, List.length_map, List.cons_append, List.nil_append, netD, netC, zbw, zbx, shD]; first | done | rfl)
      rintro τ' H' mm ⟨k, hk, rfl, rfl, rfl⟩
      refine zas fun K14 hK14 => ?_
      refine zac hp zao hc rfl fun K15 hK15 => ?_
      simp -dsimp -implicitDefEqProofs (disch := first | assumption | omega | (simp [maxLen, zab, zad, zaf, zan] <;> omega) | decide) only [zal, za1, zb8, zaj, zae, q_o, zay, lenF, zbe, zcz, ↓reduceIte, q_b, q_f, q_s, Nat.reduceEqDiff, zav, zap, iD, zbj, za9, netC, zbw, zbx, shD, zm6]
      refine hK15 _ _ ?_
      refine zau rfl (fun ht => ?_) (fun ht => ?_)
      · have hkl : k < 2 + n.ins.length + n.gates.length := by simp at ht; omega
        have hrl := rowT_len n sh k i
        have hat : nth (tabT n sh k i) k = (rowT n sh k i).map oD := by rw [tabT_at hkl, if_neg (by omega)]
        have hg1 : (hdl 2 (tabT n sh k i))[k]? = some (.os 1 (k + 2) 0 i) := by rw [hdl_at (by rw [zjl]; exact hkl), hat, List.length_map, hrl, Nat.add_comm]
        have hg2 : (zef (tabT n sh k i))[k]? = some (.cells (avs ((rowT n sh k i).map oD))) := by rw [rowsH_at (by rw [zjl]; exact hkl), hat]
        have hg3 : (zef (tabT n sh k i)).length = 2 + n.ins.length + n.gates.length := by rw [zpw, zjl]
        have hg4 : (hdl 2 (tabT n sh k i)).length = 2 + n.ins.length + n.gates.length := by rw [zlp, zjl]
        have hA0 : ∀ r : za0, (zef (tabT n sh k i) ++ r)[2 + n.ins.length + n.gates.length]? = r[0]? := fun r => app_at hg3
        have hA1 : ∀ r : za0, (zef (tabT n sh k i) ++ r)[2 + n.ins.length + n.gates.length + 1]? = r[1]? := fun r => app_at1 hg3
        have hB0 : ∀ (r : za0) (x : AObj), (zef (tabT n sh k i) ++ r).set (2 + n.ins.length + n.gates.length) x = zef (tabT n sh k i) ++ r.set 0 x := fun r x => app_set hg3
        have hB1 : ∀ (r : za0) (x : AObj), (zef (tabT n sh k i) ++ r).set (2 + n.ins.length + n.gates.length + 1) x = zef (tabT n sh k i) ++ r.set 1 x := fun r x => app_set1 hg3
        have hC0 : ∀ r : za0, (zef (tabT n sh k i) ++ r)[k]? = some (.cells (avs ((rowT n sh k i).map oD))) := fun r => by rw [List.getElem?_append_left (by omega), hg2]
        have hC1 : ∀ (r : za0) (x : AObj), (zef (tabT n sh k i) ++ r).set k x = (zef (tabT n sh k i)).set k x ++ r := fun r x => List.set_append_left _ _ (by omega)
        have hb1 : (2 + n.ins.length + n.gates.length + 1 + 1 + 1 != 1) = true := by simp
        have hb2 : (k + 2 != 1) = true := by simp
        have hb3 : (k + 1 ≤ 2 + n.ins.length + n.gates.length) = True := eq_true (by omega)
        obtain ⟨l, hl⟩ : ∃ l, l = (rowT n sh k i).map oD ++ [oD (nth v k)] := ⟨_, rfl⟩
        have hl' : (rowT n sh k i).map oD ++ [D.val (Value.bool (nth v k))] = l := hl.symm
        have hL1 : 2 + n.ins.length + n.gates.length + 1 + 1 + 1 = 3 + (tabT n sh k i).length := by rw [zjl]; omega
        have hL2 : i + 1 = l.length := by rw [hl, List.length_append, List.length_map, hrl]; rfl
        have hT := tabT_s (n := n) (sh := sh) (i := i) hkl
        rw [← hv, ← hl] at hT
        refine zbb (hK14 _ _ ?_)
        refine zas fun K16 hK16 => ?_
        refine zbg ?_
        refine zv7 zao hc mixed rfl (q := 2) (by kernel_rfl) (by kernel_rfl) fun K17 hK17 => ?_
        simp -dsimp -implicitDefEqProofs (disch := first | assumption | omega | (simp [maxLen, zab, zad, zaf, zan] <;> omega) | decide) only [zco, zcq, ze2, zrp, zo7, ze3, zc4, zae, q_o, za8, ixO, za2, layF, zdl, srcF, zb4, ↓reduceIte, q_b, ifp, ifn, q_f, q_s, q_l, List.append_nil, List.replicate_zero, List.replicate_succ, zbv, q_a, zbn, zga, and_true, Int.toNat_natCast, q_n, Nat.reduceEqDiff, shB, appB, zgy, zhw, killAll, zjr, zab, zcv, List.drop_zero, zcg, oD, Nat.reduceAdd, List.length_map, zdl, frzF, zjs, List.filterMap_nil, hb1, hb2, hb3, hg1, hg3, hg4, zcg, hA0, hA1, hB0, hB1, hC0, hC1, zm6, ztn, zto, zhy, sz_4, ag_4, zjw]
        refine hK17 _ _ (hK16 _ _ ?_)
        refine zcw hp zao hc rfl fun K18 hK18 => ?_
        simp -dsimp -implicitDefEqProofs (disch := first | assumption | omega | (simp [maxLen, zab, zad, zaf, zan] <;> omega) | decide) only [zal, zag, za1, zaj, zae, q_o, zay, zcu, ↓reduceIte, q_b, q_f, Nat.reduceEqDiff]
        refine hK18 _ _ ⟨_, _, _, ?_, ⟨k + 1, by omega, rfl, rfl, rfl⟩, ?_⟩
        · first | omega | (simp only [List.length_cons]; omega) | (dsimp only; omega)
        · refine Rt.lessl (zaa (zaa (zaa (zaa (zaa (zaa (zaa (zaq _) rfl) rfl) rfl) rfl) rfl) rfl) rfl) ?_
          refine Rt.trans (Rt.heap (H' := .cells (avs (netC n)) :: .cells ((hdl 2 (tabT n sh k i)).set k (.os 1 (3 + (tabT n sh k i).length) 0 l.length)) :: ((zef (tabT n sh k i)).set k .dead ++ [.dead, .cells (avs l)])) (by rw [hl', hL1, hL2]; rfl)) ?_
          refine Rt.trans (Rt.row (by repeat (first | exact lo_nil | refine lo_cons (by first | exact lo_d _ | exact lo_op0 _ | exact lo_os1 _ _ _) ?_)) (by rw [zjl]; exact hkl)) ?_
          refine Rt.end (zaa (zaa (zaa (zaa (zaa (zaa (zaa (zaq _) rfl) rfl) rfl) rfl) rfl) rfl) rfl) ?_
          simp only [zbj, zav, zap, netC, zbw, zbx]; rw [hT]
      · have hke : k = 2 + n.ins.length + n.gates.length := by simp at ht; omega
        subst hke
        refine zcl (hK8 _ _ ?_)
        refine zcw hp zao hc rfl fun K19 hK19 => ?_
        simp -dsimp -implicitDefEqProofs (disch := first | assumption | omega | (simp [maxLen, zab, zad, zaf, zan] <;> omega) | decide) only [zal, zag, za1, zaj, zae, q_o, zay, zcu, ↓reduceIte, q_b, q_f, Nat.reduceEqDiff]
        refine hK19 _ _ ⟨_, _, _, ?_, ⟨i + 1, by omega, rfl, rfl, rfl⟩, ?_⟩
        · first | omega | (simp only [List.length_cons]; omega) | (dsimp only; omega)
        · refine Rt.end (zaa (zaa (zaa (zaa (zaa (zaq _) rfl) rfl) rfl) rfl) rfl) ?_
          simp only [zbj, zav, zap, netC, zbw, zbx]; rw [tabT_end]; done
  · have hie : i = P := by simp at ht; omega
    subst hie
    refine zcl (hK4 _ _ ?_)
    refine zcx hp (τ' := frL [(6, .os 1 1 0 (2 + n.ins.length + n.gates.length))]) (H' := [.cells (avs (netC n)), .cells (avs ((zjz n sh).map za9))]) ?_ ?_
    · refine Rt.trans (Rt.rows_all (by repeat (first | exact lo_nil | refine lo_cons (by first | exact lo_d _ | exact lo_op0 _ | exact lo_os1 _ _ _) ?_)) (cs := netC n)) ?_
      refine Rt.end (zaa (zaq _) rfl) ?_
      simp only [zbj, zav, zap, netC, zbw, zbx]; rw [tab_fss n sh _ hP]
    refine zac hp zao hc rfl fun K20 hK20 => ?_
    simp -dsimp -implicitDefEqProofs (disch := first | assumption | omega | (simp [maxLen, zab, zad, zaf, zan] <;> omega) | decide) only [zal, zag, zaj, ↓reduceIte, q_b, q_f, zav, zap, zbj, netC, zbw, zbx]
    refine hK20 _ _ ?_
    refine zbc ?_
    show za7 _ _ = _
    simp (disch := first | assumption | omega | (simp [maxLen, zab, zad, zaf, zan] <;> omega) | decide) only [za7, retV, zcn, zcf, zc7, Nat.reduceAdd, Nat.zero_add, zba, zbi, ↓reduceIte, Option.bind_some, Nat.mul_one, List.getElem?_cons_zero, List.getElem?_cons_succ, List.length_cons, List.length_nil]
    rw [zak (by simp [zjz])]
    simp only [Option.map_some, Option.bind_some]
    rw [zc2, zrr]
    simp [zc9, zjz]
end Go.Proofs.Ytgfnpfchdlcoeaa
