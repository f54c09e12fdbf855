/- The theorem of canonicity. -/
import Derived.Test.YtgfnpfchdlcoeaaQ
import Derived.Test.YtgfnpfchdlcoeaaGez
set_option linter.unusedVariables false
set_option linter.unusedSimpArgs false
namespace Go.Proofs.Ytgfnpfchdlcoeaa
open Go Go.RowKit
set_option maxRecDepth 100000 in
set_option linter.unusedVariables false in
set_option maxHeartbeats 4000000 in
theorem canon_law (x : RawN) (hx : RawOk x) (b0 b1 b2 : Nat) (h0 : b0 < 256) (h1 : b1 < 256) (h2 : b2 < 256) : zce Try.prog 6 [.agg (rawC x), .agg [u8D b0, u8D b1, u8D b2]] (.d (oD true)) := by
  refine zb7 (fn := Try.f6) (by kernel_rfl) Try.func6 rfl (Nat.le_of_ble_eq_true rfl) fun c hc hp => ?_
  refine zch (τ' := frL [(0, .d (.agg (rawC x))), (1, .d (.agg [u8D b0, u8D b1, u8D b2]))]) (zaa (zaa (zaq _) rfl) rfl) ?_
  refine zac hp zao hc rfl fun K1 hK1 => ?_
  simp -dsimp -implicitDefEqProofs (disch := first | assumption | omega | (simp [maxLen, zab, za3, za4, zaf, zad, zan, zah, zai, zax] <;> omega) | decide) only [zag, zdy, zbd, zaj, zae, q_o, layF, ↓reduceIte, q_b, q_f, q_s, q_l, zca, D.one, Value.oneCell', q_n, Nat.reduceEqDiff, bD, zbp, zbd, rawC, u8D]
  refine hK1 _ _ ?_
  refine zac hp zao hc rfl fun K2 hK2 => ?_
  simp -dsimp -implicitDefEqProofs (disch := first | assumption | omega | (simp [maxLen, zab, za3, za4, zaf, zad, zan, zah, zai, zax] <;> omega) | decide) only [zbh, q_f, q_s, q_l, q_n, Nat.reduceAdd]
  refine zda (zkv) rfl ?_
  simp -dsimp -implicitDefEqProofs (disch := first | assumption | omega | (simp [maxLen, zab, za3, za4, zaf, zad, zan, zah, zai, zax] <;> omega) | decide) only [zag, zaj, ↓reduceIte, q_b, q_f, oD]
  refine hK2 _ _ ?_
  refine zas fun K3 hK3 => ?_
  refine zac hp zao hc rfl fun K4 hK4 => ?_
  rcases (show fewB x = false ∨ fewB x = true by cases fewB x <;> simp) with q | q
  · have hf := zt4 x
    rw [q] at hf
    simp -dsimp -implicitDefEqProofs (disch := first | assumption | omega | (simp [maxLen, zab, za3, za4, zaf, zad, zan, zah, zai, zax] <;> omega) | decide) only [zal, zat, zfn, zbh, sT_g, zae, gK_t, q_o, za8, zfo, ↓reduceIte, q_b, ifp, zar, zbk, q_f, q_s, q_l, q_n, Nat.reduceEqDiff, zak, Nat.reduceAdd, zkx, zky]
    refine zda (hf) rfl ?_
    simp -dsimp -implicitDefEqProofs (disch := first | assumption | omega | (simp [maxLen, zab, za3, za4, zaf, zad, zan, zah, zai, zax] <;> omega) | decide) only [zbq, zfn, zaj, sT_g, zae, gK_t, q_o, zfo, ↓reduceIte, q_b, zar, zbk, q_f, q_l, Nat.reduceEqDiff, oD]
    refine hK4 _ _ ?_
    refine zau rfl (fun ht => ?_) (fun ht => ?_)
    · refine zac hp zao hc rfl fun K5 hK5 => ?_
      simp -dsimp -implicitDefEqProofs (disch := first | assumption | omega | (simp [maxLen, zab, za3, za4, zaf, zad, zan, zah, zai, zax] <;> omega) | decide) only [zal, zag, zaj, ↓reduceIte, q_b, q_f, Nat.reduceEqDiff]
      refine hK5 _ _ ?_
      refine zbc ?_
      show za7 _ _ = _
      simp (disch := first | assumption | omega | (simp [maxLen, zab, za3, za4, zaf, zad, zan, zah, zai, zax] <;> omega) | decide) only [za7, retV, zbr, Nat.reduceAdd, Nat.zero_add, D.fix, zbi, ↓reduceIte, Option.map_some, List.length_cons, List.length_nil, oD]
    · cases ht
  · have hf := zt4 x
    rw [q] at hf
    simp -dsimp -implicitDefEqProofs (disch := first | assumption | omega | (simp [maxLen, zab, za3, za4, zaf, zad, zan, zah, zai, zax] <;> omega) | decide) only [zal, zat, zfn, zbh, sT_g, zae, gK_t, q_o, za8, zfo, ↓reduceIte, q_b, ifp, zar, zbk, q_f, q_s, q_l, q_n, Nat.reduceEqDiff, zak, Nat.reduceAdd, zkx, zky]
    refine zda (hf) rfl ?_
    simp -dsimp -implicitDefEqProofs (disch := first | assumption | omega | (simp [maxLen, zab, za3, za4, zaf, zad, zan, zah, zai, zax] <;> omega) | decide) only [zbq, zfn, zaj, sT_g, zae, gK_t, q_o, zfo, ↓reduceIte, q_b, zar, zbk, q_f, q_l, Nat.reduceEqDiff, oD]
    refine hK4 _ _ ?_
    refine zau rfl (fun ht => ?_) (fun ht => ?_)
    · cases ht
    · refine zbb (hK3 _ _ ?_)
      refine zac hp zao hc rfl fun K6 hK6 => ?_
      simp -dsimp -implicitDefEqProofs (disch := first | assumption | omega | (simp [maxLen, zab, za3, za4, zaf, zad, zan, zah, zai, zax] <;> omega) | decide) only [zat, zbh, zae, q_o, za8, ↓reduceIte, q_b, ifp, q_f, q_s, q_l, q_n, Nat.reduceEqDiff, zak, Nat.reduceAdd, zkx, zky]
      refine znh (made_c x hx) rfl fun r hr => ?_
      obtain ⟨n, hn, rfl⟩ := hr
      simp -dsimp -implicitDefEqProofs (disch := first | assumption | omega | (simp [maxLen, zab, za3, za4, zaf, zad, zan, zah, zai, zax] <;> omega) | decide) only [zcm, zbu, zbd, zaj, zae, q_o, layF, zb4, ↓reduceIte, q_b, ifp, q_f, q_s, q_l, zca, q_a, D.one, q_n, Nat.reduceEqDiff, zdk, zav, zap, zbj, Nat.reduceAdd, zbd, netD, netC, zbw, zbx, zes, ztp]
      refine hK6 _ _ ?_
      refine zac hp zao hc rfl fun K7 hK7 => ?_
      simp -dsimp -implicitDefEqProofs (disch := first | assumption | omega | (simp [maxLen, zab, za3, za4, zaf, zad, zan, zah, zai, zax] <;> omega) | decide) only [zat, zbh, zae, q_o, za8, ↓reduceIte, q_b, ifp, q_f, q_s, q_l, q_n, Nat.reduceEqDiff, zak, Nat.reduceAdd, sz_27, ag_27]
      refine zda (zsi b0 b1 b2 h0 h1 h2) rfl ?_
      simp -dsimp -implicitDefEqProofs (disch := first | assumption | omega | (simp [maxLen, zab, za3, za4, zaf, zad, zan, zah, zai, zax] <;> omega) | decide) only [zag, zaj, ↓reduceIte, q_b, q_f, shD]
      obtain ⟨sh, hshd⟩ : ∃ sh, sh = shpL 5 [b0, b1, b2] := ⟨_, rfl⟩
      have hsh : ShOk sh := by rw [hshd]; exact shp_ok _ rfl _
      have hsv : zcr n.ins.length sh ≤ n.ins.length + 5 := by rw [hshd]; exact zoq _ _
      rw [← hshd]
      have hnb := hn.b
      have hi9 := hnb.i1
      have hg200 := hnb.g1
      have hBI := bin_of (nodes := allL n) hnb.i1 hnb.g1 hsh hsv hnb.g2 (all_no n) (by rw [allL_len]; omega)
      refine hK7 _ _ ?_
      refine zcx hp (τ' := frL [(5, .d (oD true)), (6, .d (.fp (netC n) 0)), (7, .d (shD sh))]) (H' := []) ?_ ?_
      · refine Rt.trans (Rt.fz (id := 2) (l := netC n) rfl) ?_
        refine Rt.trans (Rt.gc (keep := []) (by decide) (by decide) (by simp [fzH])) ?_
        refine Rt.end (zaa (zaa (zaa (zaq _) rfl) rfl) rfl) ?_
        first | rfl | (simp only [zbj, za9, zbp, zbt, zbm, gcH, zb1, zcb, zcc, gc_m, fz_m, zaz, gcVs, gcV, zcy, fzH, zc0, zb9, zcd, zbl, Nat.reduceAdd, fzVs, fzV, posN, zav, zap, List.map_cons, List.map_nil, List.getD_cons_zero, List.getD_cons_succ, ↓reduceIte, Nat.reduceEqDiff, Option.map_some, List.set_cons_zero, List.set_cons_succ, zba, zak, Nat.mul_one, List.length_map, List.cons_append, List.nil_append, rawC, u8D, netD, netC, zbw, zbx, shD, bltD, bddC, zc9]; first | done | rfl)
      refine zg1 zao hp hc mixed rfl [(0, []), (1, []), (2, []), (5, []), (3, [0]), (4, []), (6, [])] [[], [], [], [2], [0, 1, 2, 3], [], [0, 1, 2, 3, 4, 5]] 1 (by kernel_rfl) fun K8 hK8 => ?_
      simp -dsimp -implicitDefEqProofs (disch := first | assumption | omega | (simp [maxLen, zab, za3, za4, zaf, zad, zan, zah, zai, zax] <;> omega) | decide) only [zae, q_o, za8, layF, zdl, ↓reduceIte, q_b, q_f, q_s, q_l, List.replicate_zero, List.replicate_succ, q_n, Nat.reduceEqDiff, shB, appB, zdk, zav, zap, zak, oD, zbj, zdl, frzF, zgm, zfc, List.getD_cons_zero, List.getD_cons_succ, zg2, zgn, zfd, zrw, netC, zbw, zbx, shD, zes, zfi, ztq]
      refine ke_by (all_c n (by omega) (by omega)) rfl ?_
      simp -dsimp -implicitDefEqProofs (disch := first | assumption | omega | (simp [maxLen, zab, za3, za4, zaf, zad, zan, zah, zai, zax] <;> omega) | decide) only [zae, q_o, za8, ↓reduceIte, q_b, q_f, q_s, Nat.reduceEqDiff, zak, zbj, zfv, zf2, zfd, zes, zfi]
      refine ke_rel (zna _ n sh (allL n) hBI) rfl fun r hr0 => ?_
      obtain ⟨ns, rs, e, rfl, hr⟩ := hr0
      have hbt := hr.blt (by omega) (all_no n)
      simp -dsimp -implicitDefEqProofs (disch := first | assumption | omega | (simp [maxLen, zab, za3, za4, zaf, zad, zan, zah, zai, zax] <;> omega) | decide) only [zae, zb4, ↓reduceIte, q_b, ifp, q_f, q_s, q_l, zca, q_a, D.one, Value.oneCell', q_n, Nat.reduceEqDiff, iD, Nat.reduceAdd, zfv, zid, zhl, bltD, bddC, zns]
      refine hK8 _ _ ?_
      refine zas fun K9 hK9 => ?_
      refine zcx hp (τ' := frL [(5, .d (oD true)), (6, .d (.fp (netC n) 0)), (7, .d (shD sh)), (8, .d (.fp (bddC ns rs ++ [iD e]) 0))]) (H' := []) ?_ ?_
      · refine Rt.trans (Rt.fz (id := 0) (l := bddC ns rs ++ [iD e]) rfl) ?_
        refine Rt.trans (Rt.gc (keep := []) (by decide) (by decide) (by simp [fzH])) ?_
        refine Rt.end (zaa (zaa (zaa (zaa (zaq _) rfl) rfl) rfl) rfl) ?_
        first | rfl | (simp only [zbj, za9, zbp, zbt, zbm, gcH, zb1, zcb, zcc, gc_m, fz_m, zaz, gcVs, gcV, zcy, fzH, zc0, zb9, zcd, zbl, Nat.reduceAdd, fzVs, fzV, posN, zav, zap, List.map_cons, List.map_nil, List.getD_cons_zero, List.getD_cons_succ, ↓reduceIte, Nat.reduceEqDiff, Option.map_some, List.set_cons_zero, List.set_cons_succ, zba, zak, Nat.mul_one, List.length_map, List.cons_append, List.nil_append, rawC, u8D, netD, netC, zbw, zbx, shD, bltD, bddC, zc9]; first | done | rfl)
      refine zac hp zao hc rfl fun K10 hK10 => ?_
      rcases hbt with rfl | ⟨rfl, fs, us, rfl, hB⟩
      · simp -dsimp -implicitDefEqProofs (disch := first | assumption | omega | (simp [maxLen, zab, za3, za4, zaf, zad, zan, zah, zai, zax] <;> omega) | decide) only [zat, zb6, za1, zaj, zae, q_o, za8, zam, zay, zff, ↓reduceIte, q_b, q_f, q_l, q_s, q_n, Nat.reduceEqDiff, iD, oD, zbj, netC, zbw, zbx, shD, bddC, Int.reduceBNe, zgr, zjx, zjy]
        refine hK10 _ _ ?_
        refine zau rfl (fun ht => ?_) (fun ht => ?_)
        · refine zac hp zao hc rfl fun K11 hK11 => ?_
          simp -dsimp -implicitDefEqProofs (disch := first | assumption | omega | (simp [maxLen, zab, za3, za4, zaf, zad, zan, zah, zai, zax] <;> omega) | decide) only [zal, zag, zbq, zat, zb6, za1, zaj, sT_g, zae, gK_t, q_o, za8, zam, zay, zd9, ↓reduceIte, q_b, zar, zck, q_f, q_l, q_n, Nat.reduceEqDiff, beq_self_eq_true, zgr, zjx, zjy]
          refine hK11 _ _ ?_
          refine zbc ?_
          show za7 _ _ = _
          simp (disch := first | assumption | omega | (simp [maxLen, zab, za3, za4, zaf, zad, zan, zah, zai, zax] <;> omega) | decide) only [za7, retV, zbr, D.fix, zbi, ↓reduceIte, Option.map_some, List.length_nil, oD]
        · cases ht
      · simp -dsimp -implicitDefEqProofs (disch := first | assumption | omega | (simp [maxLen, zab, za3, za4, zaf, zad, zan, zah, zai, zax] <;> omega) | decide) only [zat, zb6, za1, zaj, zae, q_o, za8, zam, zay, zff, ↓reduceIte, q_b, q_f, q_l, q_s, q_n, Nat.reduceEqDiff, iD, oD, zbj, netC, zbw, zbx, shD, bddC, bne_self_eq_false, zgr, zjx, zjy]
        refine hK10 _ _ ?_
        refine zau rfl (fun ht => ?_) (fun ht => ?_)
        · cases ht
        · refine zbb (hK9 _ _ ?_)
          refine zac hp zao hc rfl fun K12 hK12 => ?_
          simp -dsimp -implicitDefEqProofs (disch := first | assumption | omega | (simp [maxLen, zab, za3, za4, zaf, zad, zan, zah, zai, zax] <;> omega) | decide) only [zal, zat, zbh, zae, q_o, za8, ↓reduceIte, q_b, q_f, q_s, q_l, Nat.reduceEqDiff, zak, zes, zfi]
          refine zda (zos n sh hnb hsh (by omega)) rfl ?_
          simp -dsimp -implicitDefEqProofs (disch := first | assumption | omega | (simp [maxLen, zab, za3, za4, zaf, zad, zan, zah, zai, zax] <;> omega) | decide) only [zag, zaj, ↓reduceIte, q_b, q_f, zc9]
          have hrow := hB.row
          have hul := hB.len
          have hfl := hB.F.len
          have hra := roots_all (n := n) hfl
          have hrs := hB.rs
          have hin := hB.hin
          rw [hra] at hrs hin
          have hrl : rs.length = 2 + n.ins.length + n.gates.length := by rw [hrs, List.length_map, hfl]
          have htl := zax n sh
          have heq : ∀ i k, i < 2 + n.ins.length + n.gates.length → k < 2 + n.ins.length + n.gates.length → (((nth rs i : Nat) : Int) == ((nth rs k : Nat) : Int)) = decide (nth (zjz n sh) i = nth (zjz n sh) k) := fun i k hi hk => by
            rw [znc hi, znc hk, hrs, zmz (by omega), zmz (by omega)]
            have h3 := row_eq hsh hB.F hnb.g2 (by omega) hi hk
            by_cases h4 : nth fs i = nth fs k
            · rw [decide_eq_true (h3.2 h4), h4]; simp
            · rw [decide_eq_false fun h5 => h4 (h3.1 h5)]
              have h6 : num us (nth fs i) ≠ num us (nth fs k) := fun h7 => h4 (zey (hin _ (zdi (by omega))) (hin _ (zdi (by omega))) h7)
              simpa using fun h7 => h6 (by omega)
          have hpw : 2 ^ zcr n.ins.length sh ≤ 1048576 := Nat.le_trans (Nat.pow_le_pow_right (by decide) (show zcr n.ins.length sh ≤ 20 by omega)) (show 2 ^ 20 ≤ 1048576 by decide)
          obtain ⟨tb, htb⟩ : ∃ tb, tb = zjz n sh := ⟨_, rfl⟩
          have htr : ∀ i, i < 2 + n.ins.length + n.gates.length → (nth tb i).length ≤ 1048576 := fun i hi => by rw [htb, znc hi, rowT_len]; omega
          rw [← htb] at htl heq ⊢
          have qa : ((tb.length : Int) != 2 + (n.ins.length : Int) + n.gates.length) = false := by simp; omega
          have qb : ((rs.length : Int) != (tb.length : Int)) = false := by simp; omega
          refine hK12 _ _ ?_
          refine zas fun K13 hK13 => ?_
          refine zac hp zao hc rfl fun K14 hK14 => ?_
          simp -dsimp -implicitDefEqProofs (disch := first | assumption | omega | (simp [maxLen, zab, za3, za4, zaf, zad, zan, zah, zai, zax] <;> omega) | decide) only [zal, zat, zb8, zbh, zae, q_o, za8, lenF, zbe, ↓reduceIte, q_b, q_f, q_s, q_l, Nat.reduceEqDiff, zak, zm6, zes, zfi]
          refine zda (zit n (by omega) (by omega)) rfl ?_
          simp -dsimp -implicitDefEqProofs (disch := first | assumption | omega | (simp [maxLen, zab, za3, za4, zaf, zad, zan, zah, zai, zax] <;> omega) | decide) only [zal, zbq, zat, zb6, za1, zb8, zaj, sT_g, zae, gK_t, q_o, za8, zam, zay, lenF, zbe, zff, ↓reduceIte, q_b, zar, zbk, q_f, q_s, q_l, q_n, Nat.reduceEqDiff, iD, qa, qb, zm6, zhf, zeh, zfg, zfh, zea]
          refine hK14 _ _ ?_
          refine zau rfl (fun ht => ?_) (fun ht => ?_)
          · cases ht
          · refine zbb (hK13 _ _ ?_)
            refine zas fun K15 hK15 => ?_
            refine zac hp zao hc rfl fun K16 hK16 => ?_
            simp -dsimp -implicitDefEqProofs (disch := first | assumption | omega | (simp [maxLen, zab, za3, za4, zaf, zad, zan, zah, zai, zax] <;> omega) | decide) only [zag, zaj, q_f]
            refine hK16 _ _ ?_
            refine zbg ?_
            refine zby hp (fun τ' H' mm => ∃ (i : Nat), (i ≤ tb.length) ∧ mm = tb.length - i ∧ H' = [] ∧ τ' = frL [(5, .d (oD true)), (8, .d (.fp (bddC (erow us) rs ++ [iD 0]) 0)), (9, .d (zc9 tb)), (10, .d (iD i))]) (tb.length) ?_ ⟨0, Nat.zero_le _, rfl, rfl, rfl⟩ ?_
            · refine Rt.end (zaa (zaa (zaa (zaa (zaq _) rfl) rfl) rfl) rfl) ?_
              first | rfl | (simp only [zbj, za9, zbp, zbt, zbm, gcH, zb1, zcb, zcc, gc_m, fz_m, zaz, gcVs, gcV, zcy, fzH, zc0, zb9, zcd, zbl, Nat.reduceAdd, fzVs, fzV, posN, zav, zap, List.map_cons, List.map_nil, List.getD_cons_zero, List.getD_cons_succ, ↓reduceIte, Nat.reduceEqDiff, Option.map_some, List.set_cons_zero, List.set_cons_succ, zba, zak, Nat.mul_one, List.length_map, List.cons_append, List.nil_append, rawC, u8D, netD, netC, zbw, zbx, shD, bltD, bddC, zc9]; first | done | rfl)
            rintro τ' H' mm ⟨i, hi, rfl, rfl, rfl⟩
            refine zas fun K17 hK17 => ?_
            refine zac hp zao hc rfl fun K18 hK18 => ?_
            simp -dsimp -implicitDefEqProofs (disch := first | assumption | omega | (simp [maxLen, zab, za3, za4, zaf, zad, zan, zah, zai, zax] <;> omega) | decide) only [zal, za1, zb8, zaj, zae, q_o, zay, lenF, zbe, zcz, ↓reduceIte, q_b, q_f, q_s, Nat.reduceEqDiff, iD, oD, bddC, zc9, zm6]
            refine hK18 _ _ ?_
            refine zau rfl (fun ht => ?_) (fun ht => ?_)
            · have hlt : i < tb.length := by simp at ht; omega
              refine zbb (hK17 _ _ ?_)
              refine zas fun K19 hK19 => ?_
              refine zbg ?_
              refine zac hp zao hc rfl fun K20 hK20 => ?_
              simp -dsimp -implicitDefEqProofs (disch := first | assumption | omega | (simp [maxLen, zab, za3, za4, zaf, zad, zan, zah, zai, zax] <;> omega) | decide) only [zag, zaj, q_f]
              refine hK20 _ _ ?_
              refine zbg ?_
              refine zby hp (fun τ' H' mm => ∃ (k : Nat), (k ≤ i) ∧ mm = i - k ∧ H' = [] ∧ τ' = frL [(5, .d (oD true)), (8, .d (.fp (bddC (erow us) rs ++ [iD 0]) 0)), (9, .d (zc9 tb)), (10, .d (iD i)), (11, .d (iD k))]) (i) ?_ ⟨0, Nat.zero_le _, rfl, rfl, rfl⟩ ?_
              · refine Rt.end (zaa (zaa (zaa (zaa (zaa (zaq _) rfl) rfl) rfl) rfl) rfl) ?_
                first | rfl | (simp only [zbj, za9, zbp, zbt, zbm, gcH, zb1, zcb, zcc, gc_m, fz_m, zaz, gcVs, gcV, zcy, fzH, zc0, zb9, zcd, zbl, Nat.reduceAdd, fzVs, fzV, posN, zav, zap, List.map_cons, List.map_nil, List.getD_cons_zero, List.getD_cons_succ, ↓reduceIte, Nat.reduceEqDiff, Option.map_some, List.set_cons_zero, List.set_cons_succ, zba, zak, Nat.mul_one, List.length_map, List.cons_append, List.nil_append, rawC, u8D, netD, netC, zbw, zbx, shD, bltD, bddC, zc9]; first | done | rfl)
              rintro τ' H' mm ⟨k, hk, rfl, rfl, rfl⟩
              refine zas fun K21 hK21 => ?_
              refine zac hp zao hc rfl fun K22 hK22 => ?_
              simp -dsimp -implicitDefEqProofs (disch := first | assumption | omega | (simp [maxLen, zab, za3, za4, zaf, zad, zan, zah, zai, zax] <;> omega) | decide) only [zal, za1, zaj, zae, q_o, zay, zcz, ↓reduceIte, q_b, q_f, q_s, Nat.reduceEqDiff, iD, oD, bddC, zc9]
              refine hK22 _ _ ?_
              refine zau rfl (fun ht => ?_) (fun ht => ?_)
              · have hki : k < i := by simp at ht; omega
                have hti := htr i (by omega)
                have htk := htr k (by omega)
                have hne : ((((nth rs i : Nat) : Int) == ((nth rs k : Nat) : Int)) != decide (nth tb i = nth tb k)) = false := by rw [heq i k (by omega) (by omega)]; simp
                refine zbb (hK21 _ _ ?_)
                refine zas fun K23 hK23 => ?_
                refine zbg ?_
                refine zcs zao hc mixed rfl (q := 0) (by kernel_rfl) (by kernel_rfl) fun K24 hK24 => ?_
                simp -dsimp -implicitDefEqProofs (disch := first | assumption | omega | (simp [maxLen, zab, za3, za4, zaf, zad, zan, zah, zai, zax] <;> omega) | decide) only [zco, zcq, zem, ze2, zdt, zd5, zae, q_o, za8, zam, ixO, za2, zay, zd9, ↓reduceIte, q_b, ifp, q_f, q_s, q_l, List.append_nil, List.replicate_zero, Int.toNat_natCast, q_n, Nat.reduceEqDiff, zcg, iD, za9, Nat.reduceAdd, zcg, natD, zhf, zeh, zfg, zfh, zea, sz_3, ag_3, zm6, ztn, zto]
                refine zda (zvf (nth tb i) (nth tb k) (by unfold maxLen; omega)) rfl ?_
                simp -dsimp -implicitDefEqProofs (disch := first | assumption | omega | (simp [maxLen, zab, za3, za4, zaf, zad, zan, zah, zai, zax] <;> omega) | decide) only [zdt, zc4, zae, q_o, zay, zo8, ↓reduceIte, q_b, q_f, Nat.reduceEqDiff, killAll, oD, Nat.reduceAdd, hne, bt_4]
                refine hK24 _ _ ?_
                refine zau rfl (fun ht => ?_) (fun ht => ?_)
                · cases ht
                · refine zbb (hK23 _ _ ?_)
                  refine zcw hp zao hc rfl fun K25 hK25 => ?_
                  simp -dsimp -implicitDefEqProofs (disch := first | assumption | omega | (simp [maxLen, zab, za3, za4, zaf, zad, zan, zah, zai, zax] <;> omega) | decide) only [zal, zag, za1, zaj, zae, q_o, zay, zcu, ↓reduceIte, q_b, q_f, Nat.reduceEqDiff]
                  refine hK25 _ _ ⟨_, _, _, ?_, ⟨k + 1, by omega, rfl, rfl, rfl⟩, ?_⟩
                  · first | omega | (simp only [List.length_cons]; omega) | (dsimp only; omega)
                  · refine Rt.end (zaa (zaa (zaa (zaa (zaa (zaq _) rfl) rfl) rfl) rfl) rfl) ?_
                    first | rfl | (simp only [zbj, za9, zbp, zbt, zbm, gcH, zb1, zcb, zcc, gc_m, fz_m, zaz, gcVs, gcV, zcy, fzH, zc0, zb9, zcd, zbl, Nat.reduceAdd, fzVs, fzV, posN, zav, zap, List.map_cons, List.map_nil, List.getD_cons_zero, List.getD_cons_succ, ↓reduceIte, Nat.reduceEqDiff, Option.map_some, List.set_cons_zero, List.set_cons_succ, zba, zak, Nat.mul_one, List.length_map, List.cons_append, List.nil_append, rawC, u8D, netD, netC, zbw, zbx, shD, bltD, bddC, zc9]; first | done | rfl)
              · refine zcl (hK19 _ _ ?_)
                refine zcw hp zao hc rfl fun K26 hK26 => ?_
                simp -dsimp -implicitDefEqProofs (disch := first | assumption | omega | (simp [maxLen, zab, za3, za4, zaf, zad, zan, zah, zai, zax] <;> omega) | decide) only [zal, zag, za1, zaj, zae, q_o, zay, zcu, ↓reduceIte, q_b, q_f, Nat.reduceEqDiff]
                refine hK26 _ _ ⟨_, _, _, ?_, ⟨i + 1, by omega, rfl, rfl, rfl⟩, ?_⟩
                · first | omega | (simp only [List.length_cons]; omega) | (dsimp only; omega)
                · refine Rt.end (zaa (zaa (zaa (zaa (zaq _) rfl) rfl) rfl) rfl) ?_
                  first | rfl | (simp only [zbj, za9, zbp, zbt, zbm, gcH, zb1, zcb, zcc, gc_m, fz_m, zaz, gcVs, gcV, zcy, fzH, zc0, zb9, zcd, zbl, Nat.reduceAdd, fzVs, fzV, posN, zav, zap, List.map_cons, List.map_nil, List.getD_cons_zero, List.getD_cons_succ, ↓reduceIte, Nat.reduceEqDiff, Option.map_some, List.set_cons_zero, List.set_cons_succ, zba, zak, Nat.mul_one, List.length_map, List.cons_append, List.nil_append, rawC, u8D, netD, netC, zbw, zbx, shD, bltD, bddC, zc9]; first | done | rfl)
            · refine zcl (hK15 _ _ ?_)
              refine zac hp zao hc rfl fun K27 hK27 => ?_
              simp -dsimp -implicitDefEqProofs (disch := first | assumption | omega | (simp [maxLen, zab, za3, za4, zaf, zad, zan, zah, zai, zax] <;> omega) | decide) only [zal, zag, zaj, ↓reduceIte, q_b, q_f, Nat.reduceEqDiff]
              refine hK27 _ _ ?_
              refine zbc ?_
              show za7 _ _ = _
              simp (disch := first | assumption | omega | (simp [maxLen, zab, za3, za4, zaf, zad, zan, zah, zai, zax] <;> omega) | decide) only [za7, retV, zbr, D.fix, zbi, ↓reduceIte, Option.map_some, List.length_nil, oD]
end Go.Proofs.Ytgfnpfchdlcoeaa
