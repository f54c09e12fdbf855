/- The theorem of witnesses. -/
import Derived.Test.YtgfnpfchdlcoeaaQ
import Derived.Test.YtgfnpfchdlcoeaaGez
set_option linter.unusedVariables false
set_option linter.unusedSimpArgs false
namespace Go.Proofs.Ytgfnpfchdlcoeaa
open Go Go.RowKit
set_option maxRecDepth 100000 in
set_option linter.unusedVariables false in
set_option maxHeartbeats 4000000 in
theorem finds_law (x : RawN) (hx : RawOk x) (b0 b1 b2 : Nat) (h0 : b0 < 256) (h1 : b1 < 256) (h2 : b2 < 256) (k : Nat) (hk : k < 256) : zce Try.prog 8 [.agg (rawC x), .agg [u8D b0, u8D b1, u8D b2], u8D k] (.d (oD true)) := by
  refine zb7 (fn := Try.f8) (by kernel_rfl) Try.func8 rfl (Nat.le_of_ble_eq_true rfl) fun c hc hp => ?_
  refine zch (τ' := frL [(0, .d (.agg (rawC x))), (1, .d (.agg [u8D b0, u8D b1, u8D b2])), (2, .d (u8D k))]) (zaa (zaa (zaa (zaq _) rfl) rfl) rfl) ?_
  refine zac hp zao hc rfl fun K1 hK1 => ?_
  simp -dsimp -implicitDefEqProofs (disch := first | assumption | omega | (simp [maxLen, zab, za3, za4, zaf, zad, zan, zah, zai, zax] <;> omega) | decide) only [zag, zdy, zbd, zaj, zae, q_o, layF, ↓reduceIte, q_b, q_f, q_s, q_l, zca, D.one, Value.oneCell', q_n, Nat.reduceEqDiff, bD, zbp, zbd, rawC, u8D]
  refine hK1 _ _ ?_
  refine zac hp zao hc rfl fun K2 hK2 => ?_
  simp -dsimp -implicitDefEqProofs (disch := first | assumption | omega | (simp [maxLen, zab, za3, za4, zaf, zad, zan, zah, zai, zax] <;> omega) | decide) only [zbh, q_f, q_s, q_l, q_n, Nat.reduceAdd]
  refine zda (zkv) rfl ?_
  simp -dsimp -implicitDefEqProofs (disch := first | assumption | omega | (simp [maxLen, zab, za3, za4, zaf, zad, zan, zah, zai, zax] <;> omega) | decide) only [zag, zaj, ↓reduceIte, q_b, q_f, oD]
  refine hK2 _ _ ?_
  refine zas fun K3 hK3 => ?_
  refine zac hp zao hc rfl fun K4 hK4 => ?_
  rcases (show fewB x = false ∨ fewB x = true by cases fewB x <;> simp) with q | q
  · have hf := zt4 x
    rw [q] at hf
    simp -dsimp -implicitDefEqProofs (disch := first | assumption | omega | (simp [maxLen, zab, za3, za4, zaf, zad, zan, zah, zai, zax] <;> omega) | decide) only [zal, zat, zfn, zbh, sT_g, zae, gK_t, q_o, za8, zfo, ↓reduceIte, q_b, ifp, zar, zbk, q_f, q_s, q_l, q_n, Nat.reduceEqDiff, zak, Nat.reduceAdd, zkx, zky]
    refine zda (hf) rfl ?_
    simp -dsimp -implicitDefEqProofs (disch := first | assumption | omega | (simp [maxLen, zab, za3, za4, zaf, zad, zan, zah, zai, zax] <;> omega) | decide) only [zbq, zfn, zaj, sT_g, zae, gK_t, q_o, zfo, ↓reduceIte, q_b, zar, zbk, q_f, q_l, Nat.reduceEqDiff, oD]
    refine hK4 _ _ ?_
    refine zau rfl (fun ht => ?_) (fun ht => ?_)
    · refine zac hp zao hc rfl fun K5 hK5 => ?_
      simp -dsimp -implicitDefEqProofs (disch := first | assumption | omega | (simp [maxLen, zab, za3, za4, zaf, zad, zan, zah, zai, zax] <;> omega) | decide) only [zal, zag, zaj, ↓reduceIte, q_b, q_f, Nat.reduceEqDiff]
      refine hK5 _ _ ?_
      refine zbc ?_
      show za7 _ _ = _
      simp (disch := first | assumption | omega | (simp [maxLen, zab, za3, za4, zaf, zad, zan, zah, zai, zax] <;> omega) | decide) only [za7, retV, zbr, Nat.reduceAdd, Nat.zero_add, D.fix, zbi, ↓reduceIte, Option.map_some, List.length_cons, List.length_nil, oD]
    · cases ht
  · have hf := zt4 x
    rw [q] at hf
    simp -dsimp -implicitDefEqProofs (disch := first | assumption | omega | (simp [maxLen, zab, za3, za4, zaf, zad, zan, zah, zai, zax] <;> omega) | decide) only [zal, zat, zfn, zbh, sT_g, zae, gK_t, q_o, za8, zfo, ↓reduceIte, q_b, ifp, zar, zbk, q_f, q_s, q_l, q_n, Nat.reduceEqDiff, zak, Nat.reduceAdd, zkx, zky]
    refine zda (hf) rfl ?_
    simp -dsimp -implicitDefEqProofs (disch := first | assumption | omega | (simp [maxLen, zab, za3, za4, zaf, zad, zan, zah, zai, zax] <;> omega) | decide) only [zbq, zfn, zaj, sT_g, zae, gK_t, q_o, zfo, ↓reduceIte, q_b, zar, zbk, q_f, q_l, Nat.reduceEqDiff, oD]
    refine hK4 _ _ ?_
    refine zau rfl (fun ht => ?_) (fun ht => ?_)
    · cases ht
    · refine zbb (hK3 _ _ ?_)
      refine zac hp zao hc rfl fun K6 hK6 => ?_
      simp -dsimp -implicitDefEqProofs (disch := first | assumption | omega | (simp [maxLen, zab, za3, za4, zaf, zad, zan, zah, zai, zax] <;> omega) | decide) only [zat, zbh, zae, q_o, za8, ↓reduceIte, q_b, ifp, q_f, q_s, q_l, q_n, Nat.reduceEqDiff, zak, Nat.reduceAdd, zkx, zky]
      refine znh (made_c x hx) rfl fun r hr => ?_
      obtain ⟨n, hn, rfl⟩ := hr
      simp -dsimp -implicitDefEqProofs (disch := first | assumption | omega | (simp [maxLen, zab, za3, za4, zaf, zad, zan, zah, zai, zax] <;> omega) | decide) only [zcm, zbu, zbd, zaj, zae, q_o, layF, zb4, ↓reduceIte, q_b, ifp, q_f, q_s, q_l, zca, q_a, D.one, q_n, Nat.reduceEqDiff, zdk, zav, zap, zbj, Nat.reduceAdd, zbd, netD, netC, zbw, zbx, zes, ztp]
      refine hK6 _ _ ?_
      refine zac hp zao hc rfl fun K7 hK7 => ?_
      simp -dsimp -implicitDefEqProofs (disch := first | assumption | omega | (simp [maxLen, zab, za3, za4, zaf, zad, zan, zah, zai, zax] <;> omega) | decide) only [zat, zbh, zae, q_o, za8, ↓reduceIte, q_b, ifp, q_f, q_s, q_l, q_n, Nat.reduceEqDiff, zak, Nat.reduceAdd, sz_27, ag_27]
      refine zda (zsi b0 b1 b2 h0 h1 h2) rfl ?_
      simp -dsimp -implicitDefEqProofs (disch := first | assumption | omega | (simp [maxLen, zab, za3, za4, zaf, zad, zan, zah, zai, zax] <;> omega) | decide) only [zag, zaj, ↓reduceIte, q_b, q_f, shD]
      obtain ⟨sh, hshd⟩ : ∃ sh, sh = shpL 5 [b0, b1, b2] := ⟨_, rfl⟩
      have hsh : ShOk sh := by rw [hshd]; exact shp_ok _ rfl _
      have hsv : zcr n.ins.length sh ≤ n.ins.length + 5 := by rw [hshd]; exact zoq _ _
      rw [← hshd]
      have hnb := hn.b
      have hi9 := hnb.i1
      have hg200 := hnb.g1
      obtain ⟨kn, hkn⟩ : ∃ kn, kn = k % (2 + n.ins.length + n.gates.length) := ⟨_, rfl⟩
      have hkl : kn < 2 + n.ins.length + n.gates.length := by rw [hkn]; exact Nat.mod_lt _ (by omega)
      have hkm : (k : Int) % (2 + (n.ins.length : Int) + (n.gates.length : Int)) = (kn : Int) := by rw [hkn]; push_cast; rfl
      have hkw : IntKind.i64.wrap (k : Int) = k := zh2 (by omega) (by omega)
      have hno := one_no hkl
      have hBI := bin_of (nodes := [(kn : Int)]) hnb.i1 hnb.g1 hsh hsv hnb.g2 hno (by simp)
      refine hK7 _ _ ?_
      refine zcx hp (τ' := frL [(2, .d (u8D k)), (7, .d (oD true)), (8, .d (.fp (netC n) 0)), (9, .d (shD sh))]) (H' := []) ?_ ?_
      · refine Rt.trans (Rt.fz (id := 2) (l := netC n) rfl) ?_
        refine Rt.trans (Rt.gc (keep := []) (by decide) (by decide) (by simp [fzH])) ?_
        refine Rt.end (zaa (zaa (zaa (zaa (zaq _) rfl) rfl) rfl) rfl) ?_
        first | rfl | (simp only [zbj, za9, zbp, zbt, zbm, gcH, zb1, zcb, zcc, gc_m, fz_m, zaz, gcVs, gcV, zcy, fzH, zc0, zb9, zcd, zbl, Nat.reduceAdd, fzVs, fzV, posN, zav, zap, List.map_cons, List.map_nil, List.getD_cons_zero, List.getD_cons_succ, ↓reduceIte, Nat.reduceEqDiff, Option.map_some, List.set_cons_zero, List.set_cons_succ, zba, zak, Nat.mul_one, List.length_map, List.cons_append, List.nil_append, rawC, u8D, netD, netC, zbw, zbx, shD, bltD, bddC, zc9]; first | done | rfl)
      refine zac hp zao hc rfl fun K8 hK8 => ?_
      simp -dsimp -implicitDefEqProofs (disch := first | assumption | omega | (simp [maxLen, zab, za3, za4, zaf, zad, zan, zah, zai, zax] <;> omega) | decide) only [zal, zat, ze8, zbh, zae, q_o, za8, zgx, ↓reduceIte, q_b, q_f, q_s, q_l, Nat.reduceEqDiff, zak, bD, oD, zbj, u8D, netC, zbw, zbx, shD, hkw, ik_5, ik_3, zes, zfi]
      refine zda (zit n (by omega) (by omega)) rfl ?_
      simp -dsimp -implicitDefEqProofs (disch := first | assumption | omega | (simp [maxLen, zab, za3, za4, zaf, zad, zan, zah, zai, zax] <;> omega) | decide) only [zag, za1, zaj, zae, q_o, zay, zix, ↓reduceIte, q_b, q_f, Nat.reduceEqDiff, iD, hkm]
      refine hK8 _ _ ?_
      have hbc := zna _ n sh [(kn : Int)] hBI
      refine zac hp zao hc rfl fun K9 hK9 => ?_
      simp -dsimp -implicitDefEqProofs (disch := first | assumption | omega | (simp [maxLen, zab, za3, za4, zaf, zad, zan, zah, zai, zax] <;> omega) | decide) only [zal, zat, zbh, zdw, zbd, zae, q_o, za8, layF, ↓reduceIte, q_b, ifp, ifn, q_f, q_s, q_l, List.replicate_zero, List.replicate_succ, zbv, q_a, zbn, q_n, Nat.reduceEqDiff, zak, zbd, zes, zfi, zgp]
      refine kc_allr (hbc) (by simp (disch := first | assumption | omega | (simp [maxLen, zab, za3, za4, zaf, zad, zan, zah, zai, zax] <;> omega) | decide) only [List.map_cons, List.map_nil, zbr, zb5, zb0, zcn, zcf, zc7, Nat.reduceAdd, Nat.zero_add, zak, D.fix, Option.map_some, Option.bind_some, Nat.mul_one, List.getElem?_cons_zero, List.length_cons, List.length_nil, iD, zbj, netD, netC, zbw, zbx, shD] <;> rfl) fun r hr0 => ?_
      obtain ⟨ns, rs, e, rfl, hr⟩ := hr0
      have hbt := hr.blt (by omega) hno
      simp -dsimp -implicitDefEqProofs (disch := first | assumption | omega | (simp [maxLen, zab, za3, za4, zaf, zad, zan, zah, zai, zax] <;> omega) | decide) only [zcm, zbu, zbd, zaj, zae, q_o, layF, zb4, ↓reduceIte, q_b, ifp, q_f, q_s, q_l, zca, q_a, D.one, Value.oneCell', q_n, Nat.reduceEqDiff, zdk, zav, zap, iD, Nat.reduceAdd, zbd, bltD, bddC, zns, ztq]
      refine hK9 _ _ ?_
      refine zas fun K10 hK10 => ?_
      refine zcx hp (τ' := frL [(7, .d (oD true)), (8, .d (.fp (netC n) 0)), (9, .d (shD sh)), (10, .d (iD kn)), (11, .d (.fp (bddC ns rs ++ [iD e]) 0))]) (H' := []) ?_ ?_
      · refine Rt.trans (Rt.fz (id := 1) (l := bddC ns rs ++ [iD e]) rfl) ?_
        refine Rt.trans (Rt.gc (keep := []) (by decide) (by decide) (by simp [fzH])) ?_
        refine Rt.end (zaa (zaa (zaa (zaa (zaa (zaq _) rfl) rfl) rfl) rfl) rfl) ?_
        first | rfl | (simp only [zbj, za9, zbp, zbt, zbm, gcH, zb1, zcb, zcc, gc_m, fz_m, zaz, gcVs, gcV, zcy, fzH, zc0, zb9, zcd, zbl, Nat.reduceAdd, fzVs, fzV, posN, zav, zap, List.map_cons, List.map_nil, List.getD_cons_zero, List.getD_cons_succ, ↓reduceIte, Nat.reduceEqDiff, Option.map_some, List.set_cons_zero, List.set_cons_succ, zba, zak, Nat.mul_one, List.length_map, List.cons_append, List.nil_append, rawC, u8D, netD, netC, zbw, zbx, shD, bltD, bddC, zc9]; first | done | rfl)
      refine zac hp zao hc rfl fun K11 hK11 => ?_
      rcases hbt with rfl | ⟨rfl, fs, us, rfl, hB⟩
      · simp -dsimp -implicitDefEqProofs (disch := first | assumption | omega | (simp [maxLen, zab, za3, za4, zaf, zad, zan, zah, zai, zax] <;> omega) | decide) only [zat, zb6, za1, zaj, zae, q_o, za8, zam, zay, zff, ↓reduceIte, q_b, q_f, q_l, q_s, q_n, Nat.reduceEqDiff, iD, oD, zbj, netC, zbw, zbx, shD, bddC, Int.reduceBNe, zgr, zjx, zjy]
        refine hK11 _ _ ?_
        refine zau rfl (fun ht => ?_) (fun ht => ?_)
        · refine zac hp zao hc rfl fun K12 hK12 => ?_
          simp -dsimp -implicitDefEqProofs (disch := first | assumption | omega | (simp [maxLen, zab, za3, za4, zaf, zad, zan, zah, zai, zax] <;> omega) | decide) only [zal, zag, zbq, zat, zb6, za1, zaj, sT_g, zae, gK_t, q_o, za8, zam, zay, zd9, ↓reduceIte, q_b, zar, zck, q_f, q_l, q_n, Nat.reduceEqDiff, beq_self_eq_true, zgr, zjx, zjy]
          refine hK12 _ _ ?_
          refine zbc ?_
          show za7 _ _ = _
          simp (disch := first | assumption | omega | (simp [maxLen, zab, za3, za4, zaf, zad, zan, zah, zai, zax] <;> omega) | decide) only [za7, retV, zbr, D.fix, zbi, ↓reduceIte, Option.map_some, List.length_nil, oD]
        · cases ht
      · simp -dsimp -implicitDefEqProofs (disch := first | assumption | omega | (simp [maxLen, zab, za3, za4, zaf, zad, zan, zah, zai, zax] <;> omega) | decide) only [zat, zb6, za1, zaj, zae, q_o, za8, zam, zay, zff, ↓reduceIte, q_b, q_f, q_l, q_s, q_n, Nat.reduceEqDiff, iD, oD, zbj, netC, zbw, zbx, shD, bddC, bne_self_eq_false, zgr, zjx, zjy]
        refine hK11 _ _ ?_
        refine zau rfl (fun ht => ?_) (fun ht => ?_)
        · cases ht
        · refine zbb (hK10 _ _ ?_)
          refine zas fun K13 hK13 => ?_
          obtain ⟨hO, hrs⟩ := one_of hkl hB
          obtain ⟨t, htd⟩ : ∃ t, t = nth fs kn := ⟨_, rfl⟩
          have hval := zpv hO.row (by omega) hO.len (rs := rs) fun k hk => by
            rw [hrs] at hk
            rw [List.mem_singleton.1 hk]
            exact zer hO.hin
          have hk1 := zsh ((erow us).map toI) (rs.map fun (k : Nat) => (k : Int)) (by rw [erow_I]; unfold maxLen; have := hO.len; omega) (by rw [List.length_map, hrs]; simp)
          rw [hval, ← bddD_I, hrs, ← htd] at hk1
          rw [← htd] at hO
          rw [hrs, ← htd]
          have q9 : (((1 : Nat) : Int) != 1) = false := rfl
          refine zac hp zao hc rfl fun K14 hK14 => ?_
          simp -dsimp -implicitDefEqProofs (disch := first | assumption | omega | (simp [maxLen, zab, za3, za4, zaf, zad, zan, zah, zai, zax] <;> omega) | decide) only [zal, zat, zb6, za1, zb8, zbh, sT_g, zae, gK_t, q_o, za8, zam, zay, lenF, zbe, zff, ↓reduceIte, q_b, zar, zbk, q_f, q_s, q_l, q_n, Nat.reduceEqDiff, zdm, zej, q9, zhf, zeh, zez, zft, zfg, zfh, zea]
          refine zda (hk1) rfl ?_
          simp -dsimp -implicitDefEqProofs (disch := first | assumption | omega | (simp [maxLen, zab, za3, za4, zaf, zad, zan, zah, zai, zax] <;> omega) | decide) only [zbq, zfn, zaj, sT_g, zae, gK_t, q_o, zfo, ↓reduceIte, q_b, zar, zbk, q_f, q_l, Nat.reduceEqDiff, oD]
          refine hK14 _ _ ?_
          refine zau rfl (fun ht => ?_) (fun ht => ?_)
          · cases ht
          · refine zbb (hK13 _ _ ?_)
            refine zac hp zao hc rfl fun K15 hK15 => ?_
            simp -dsimp -implicitDefEqProofs (disch := first | assumption | omega | (simp [maxLen, zab, za3, za4, zaf, zad, zan, zah, zai, zax] <;> omega) | decide) only [zal, zat, zbh, zae, q_o, za8, ↓reduceIte, q_b, q_f, q_s, q_l, Nat.reduceEqDiff, zak, zes, zfi]
            refine zda (vars_c n sh hsh (by omega)) rfl ?_
            simp -dsimp -implicitDefEqProofs (disch := first | assumption | omega | (simp [maxLen, zab, za3, za4, zaf, zad, zan, zah, zai, zax] <;> omega) | decide) only [zag, zaj, ↓reduceIte, q_b, q_f, iD]
            refine hK15 _ _ ?_
            refine zac hp zao hc rfl fun K16 hK16 => ?_
            simp -dsimp -implicitDefEqProofs (disch := first | assumption | omega | (simp [maxLen, zab, za3, za4, zaf, zad, zan, zah, zai, zax] <;> omega) | decide) only [zal, zat, zbh, zae, q_o, za8, ↓reduceIte, q_b, q_f, q_s, q_l, Nat.reduceEqDiff, zak, zes, zfi]
            refine zda (zos n sh hnb hsh (by omega)) rfl ?_
            simp -dsimp -implicitDefEqProofs (disch := first | assumption | omega | (simp [maxLen, zab, za3, za4, zaf, zad, zan, zah, zai, zax] <;> omega) | decide) only [zag, zaj, ↓reduceIte, q_b, q_f, zc9]
            refine hK16 _ _ ?_
            refine zas fun K17 hK17 => ?_
            have htl := zax n sh
            obtain ⟨P, hP⟩ : ∃ P, P = 2 ^ zcr n.ins.length sh := ⟨_, rfl⟩
            have hpw : P ≤ 1048576 := by rw [hP]; exact Nat.le_trans (Nat.pow_le_pow_right (by decide) (show zcr n.ins.length sh ≤ 20 by omega)) (show 2 ^ 20 ≤ 1048576 by decide)
            have hrow : nth (zjz n sh) kn = (List.range P).map fun j => t.eval (asn (zcr n.ins.length sh) j) := by
              rw [znc hkl, zt5 hsh hB.F hnb.g2 (by omega) hkl (Nat.le_refl _), htd, hP]
            obtain ⟨tb, htb⟩ : ∃ tb, tb = zjz n sh := ⟨_, rfl⟩
            rw [← htb] at htl hrow ⊢
            have qa : ((tb.length : Int) != 2 + (n.ins.length : Int) + n.gates.length) = false := by simp; omega
            refine zac hp zao hc rfl fun K18 hK18 => ?_
            simp -dsimp -implicitDefEqProofs (disch := first | assumption | omega | (simp [maxLen, zab, za3, za4, zaf, zad, zan, zah, zai, zax] <;> omega) | decide) only [zal, zat, zb8, zbh, zae, q_o, za8, lenF, zbe, ↓reduceIte, q_b, q_f, q_s, q_l, Nat.reduceEqDiff, zak, zm6, zes, zfi]
            refine zda (zit n (by omega) (by omega)) rfl ?_
            simp -dsimp -implicitDefEqProofs (disch := first | assumption | omega | (simp [maxLen, zab, za3, za4, zaf, zad, zan, zah, zai, zax] <;> omega) | decide) only [za1, zaj, zae, q_o, zay, zff, ↓reduceIte, q_b, q_f, Nat.reduceEqDiff, iD, qa]
            refine hK18 _ _ ?_
            refine zau rfl (fun ht => ?_) (fun ht => ?_)
            · cases ht
            · refine zbb (hK17 _ _ ?_)
              refine zac hp zao hc rfl fun K19 hK19 => ?_
              simp -dsimp -implicitDefEqProofs (disch := first | assumption | omega | (simp [maxLen, zab, za3, za4, zaf, zad, zan, zah, zai, zax] <;> omega) | decide) only [zal, zag, zat, zdo, zaj, zae, q_o, za8, ixO, za2, ↓reduceIte, q_b, ifp, q_f, Int.toNat_natCast, q_n, Nat.reduceEqDiff, zcg, za9, zcg, zm6, ztn, zto]
              obtain ⟨row, hro⟩ : ∃ row, row = nth tb kn := ⟨_, rfl⟩
              have hrl : row.length = P := by rw [hro, hrow]; simp
              have hre : ∀ j, j < P → nth row j = t.eval (asn (zcr n.ins.length sh) j) := fun j hj => by rw [hro, hrow, zdj hj]
              rw [← hro]
              refine hK19 _ _ ?_
              refine zac hp zao hc rfl fun K20 hK20 => ?_
              simp -dsimp -implicitDefEqProofs (disch := first | assumption | omega | (simp [maxLen, zab, za3, za4, zaf, zad, zan, zah, zai, zax] <;> omega) | decide) only [zag, zaj, q_f]
              refine hK20 _ _ ?_
              refine zas fun K21 hK21 => ?_
              have hJ21 : ∀ τ' H', (∃ τ1 H1, ∃ (i : Nat), (i ≤ P ∧ (∀ j, j < i → t.eval (asn (zcr n.ins.length sh) j) = false) ∧ (i < P → t.eval (asn (zcr n.ins.length sh) i) = true)) ∧ H1 = [] ∧ τ1 = frL [(7, .d (oD true)), (11, .d (.fp (bddC (erow us) [num us t] ++ [iD 0]) 0)), (12, .d (iD (zcr n.ins.length sh))), (14, .d (za9 row)), (15, .d (iD i))] ∧ Rt [] τ' H' τ1 H1) → K21 τ' H' := by
                rintro τ' H' ⟨_, _, i, ⟨hi, hlow, hup⟩, rfl, rfl, hrt⟩
                refine hK21 _ _ (zcx hp hrt ?_)
                clear hrt
                refine zcs zao hc mixed rfl (q := 1) (by kernel_rfl) (by kernel_rfl) fun K22 hK22 => ?_
                by_cases q : i < P
                · obtain ⟨hL, hE⟩ := hO.some (by omega) (by rw [← hP]; exact q) hlow (hup q)
                  have hfc := zsf _ us [num us t] hO.row (by omega) (by unfold bigB; have := hO.len; omega) ((num us t : Nat) : Int) (zcr n.ins.length sh : Nat)
                  rw [hL, hE] at hfc
                  have q3 : ((i : Int) == row.length) = false := by simp; omega
                  simp -dsimp -implicitDefEqProofs (disch := first | assumption | omega | (simp [maxLen, zab, za3, za4, zaf, zad, zan, zah, zai, zax] <;> omega) | decide) only [zco, zcq, zem, ze2, zd5, zae, q_o, za8, zam, ixO, za2, ↓reduceIte, q_b, ifp, q_f, q_s, q_l, List.replicate_zero, List.replicate_succ, q_n, Nat.reduceEqDiff, zdm, zej, iD, oD, za9, Nat.reduceAdd, Int.toNat_zero, bddC, natD, zhf, zez, zft, zeh, zfg, zfh, zea, sz_3, ag_3]
                  refine zda (hfc) rfl ?_
                  simp -dsimp -implicitDefEqProofs (disch := first | assumption | omega | (simp [maxLen, zab, za3, za4, zaf, zad, zan, zah, zai, zax] <;> omega) | decide) only [zfp, ze3, zc4, zae, q_o, layF, zdl, zb4, ↓reduceIte, q_b, ifp, q_f, q_s, q_l, zca, q_a, D.one, Value.oneCell', q_n, Nat.reduceEqDiff, shB, appB, killAll, zdk, zav, zap, iD, za9, Nat.reduceAdd, zdl, frzF, sz_53, za_53]
                  refine hK22 _ _ ?_
                  refine zas fun K23 hK23 => ?_
                  refine zcx hp (τ' := frL [(7, .d (oD true)), (12, .d (iD (zcr n.ins.length sh))), (14, .d (za9 row)), (15, .d (iD i)), (16, .d (.fp [za9 (asgL (zcr n.ins.length sh) i), iD 0] 0))]) (H' := []) ?_ ?_
                  · refine Rt.trans (Rt.fz (id := 0) (l := [za9 (asgL (zcr n.ins.length sh) i), iD 0]) rfl) ?_
                    refine Rt.trans (Rt.gc (keep := []) (by decide) (by decide) (by simp [fzH])) ?_
                    refine Rt.end (zaa (zaa (zaa (zaa (zaa (zaq _) rfl) rfl) rfl) rfl) rfl) ?_
                    first | rfl | (simp only [zbj, za9, zbp, zbt, zbm, gcH, zb1, zcb, zcc, gc_m, fz_m, zaz, gcVs, gcV, zcy, fzH, zc0, zb9, zcd, zbl, Nat.reduceAdd, fzVs, fzV, posN, zav, zap, List.map_cons, List.map_nil, List.getD_cons_zero, List.getD_cons_succ, ↓reduceIte, Nat.reduceEqDiff, Option.map_some, List.set_cons_zero, List.set_cons_succ, zba, zak, Nat.mul_one, List.length_map, List.cons_append, List.nil_append, rawC, u8D, netD, netC, zbw, zbx, shD, bltD, bddC, zc9]; first | done | rfl)
                  refine zac hp zao hc rfl fun K24 hK24 => ?_
                  simp -dsimp -implicitDefEqProofs (disch := first | assumption | omega | (simp [maxLen, zab, za3, za4, zaf, zad, zan, zah, zai, zax] <;> omega) | decide) only [zal, za1, zb8, zaj, zae, q_o, zay, lenF, zbe, zd9, ↓reduceIte, q_b, q_f, q_s, Nat.reduceEqDiff, iD, oD, za9, q3, zhy]
                  refine hK24 _ _ ?_
                  refine zau rfl (fun ht => ?_) (fun ht => ?_)
                  · cases ht
                  · refine zbb (hK23 _ _ ?_)
                    refine zcs zao hc mixed rfl (q := 0) (by kernel_rfl) (by kernel_rfl) fun K25 hK25 => ?_
                    simp -dsimp -implicitDefEqProofs (disch := first | assumption | omega | (simp [maxLen, zab, za3, za4, zaf, zad, zan, zah, zai, zax] <;> omega) | decide) only [zco, zcq, zem, zdt, zd5, zae, gK_t, q_o, za8, zam, zay, zd9, ↓reduceIte, q_b, zar, zck, q_f, q_s, q_l, List.append_nil, List.replicate_zero, q_n, Nat.reduceEqDiff, Nat.reduceAdd, zhd, beq_self_eq_true, zu0, zjx, zjy, zuz, ztn, zto]
                    refine zda (asg_c (zcr n.ins.length sh) i (by omega)) rfl ?_
                    simp -dsimp -implicitDefEqProofs (disch := first | assumption | omega | (simp [maxLen, zab, za3, za4, zaf, zad, zan, zah, zai, zax] <;> omega) | decide) only [zd5, gK_t, q_o, ↓reduceIte, q_b, zar, zck, q_f, q_s, q_l, Nat.reduceEqDiff, za9, Nat.reduceAdd, zhd]
                    refine zda (zvf (asgL (zcr n.ins.length sh) i) (asgL (zcr n.ins.length sh) i) (by simp [asgL]; unfold maxLen; omega)) rfl ?_
                    simp -dsimp -implicitDefEqProofs (disch := first | assumption | omega | (simp [maxLen, zab, za3, za4, zaf, zad, zan, zah, zai, zax] <;> omega) | decide) only [zco, zdh, zed, zc4, zae, gK_t, q_o, ↓reduceIte, q_b, zar, zck, q_f, q_l, Nat.reduceEqDiff, killAll, oD, Nat.reduceAdd, zhd, decide_true]
                    refine hK25 _ _ ?_
                    refine zbc ?_
                    show za7 _ _ = _
                    simp (disch := first | assumption | omega | (simp [maxLen, zab, za3, za4, zaf, zad, zan, zah, zai, zax] <;> omega) | decide) only [za7, retV, zbr, D.fix, zbi, ↓reduceIte, Option.map_some, List.length_nil, oD]
                · obtain ⟨hL, hE⟩ := hO.none (by omega) fun j hj => hlow j (by rw [← hP] at hj; omega)
                  have hfc := zsf _ us [num us t] hO.row (by omega) (by unfold bigB; have := hO.len; omega) ((num us t : Nat) : Int) (zcr n.ins.length sh : Nat)
                  rw [hL, hE] at hfc
                  have q3 : ((i : Int) == row.length) = true := by simp; omega
                  have q8 : (((0 : Nat) : Int) == 0) = true := rfl
                  simp -dsimp -implicitDefEqProofs (disch := first | assumption | omega | (simp [maxLen, zab, za3, za4, zaf, zad, zan, zah, zai, zax] <;> omega) | decide) only [zco, zcq, zem, ze2, zd5, zae, q_o, za8, zam, ixO, za2, ↓reduceIte, q_b, ifp, q_f, q_s, q_l, List.replicate_zero, List.replicate_succ, q_n, Nat.reduceEqDiff, zdm, zej, iD, oD, za9, Nat.reduceAdd, Int.toNat_zero, bddC, natD, zhf, zez, zft, zeh, zfg, zfh, zea, sz_3, ag_3]
                  refine zda (hfc) rfl ?_
                  simp -dsimp -implicitDefEqProofs (disch := first | assumption | omega | (simp [maxLen, zab, za3, za4, zaf, zad, zan, zah, zai, zax] <;> omega) | decide) only [zfp, ze3, zc4, zae, q_o, layF, zdl, zb4, ↓reduceIte, q_b, ifp, q_f, q_s, q_l, zca, q_a, D.one, Value.oneCell', q_n, Nat.reduceEqDiff, shB, appB, killAll, zdk, zav, zap, iD, za9, Nat.reduceAdd, zdl, frzF, sz_53, za_53]
                  refine hK22 _ _ ?_
                  refine zas fun K26 hK26 => ?_
                  refine zcx hp (τ' := frL [(7, .d (oD true)), (12, .d (iD (zcr n.ins.length sh))), (14, .d (za9 row)), (15, .d (iD i)), (16, .d (.fp [za9 [], iD 4] 0))]) (H' := []) ?_ ?_
                  · refine Rt.trans (Rt.fz (id := 0) (l := [za9 [], iD 4]) rfl) ?_
                    refine Rt.trans (Rt.gc (keep := []) (by decide) (by decide) (by simp [fzH])) ?_
                    refine Rt.end (zaa (zaa (zaa (zaa (zaa (zaq _) rfl) rfl) rfl) rfl) rfl) ?_
                    first | rfl | (simp only [zbj, za9, zbp, zbt, zbm, gcH, zb1, zcb, zcc, gc_m, fz_m, zaz, gcVs, gcV, zcy, fzH, zc0, zb9, zcd, zbl, Nat.reduceAdd, fzVs, fzV, posN, zav, zap, List.map_cons, List.map_nil, List.getD_cons_zero, List.getD_cons_succ, ↓reduceIte, Nat.reduceEqDiff, Option.map_some, List.set_cons_zero, List.set_cons_succ, zba, zak, Nat.mul_one, List.length_map, List.cons_append, List.nil_append, rawC, u8D, netD, netC, zbw, zbx, shD, bltD, bddC, zc9]; first | done | rfl)
                  refine zac hp zao hc rfl fun K27 hK27 => ?_
                  simp -dsimp -implicitDefEqProofs (disch := first | assumption | omega | (simp [maxLen, zab, za3, za4, zaf, zad, zan, zah, zai, zax] <;> omega) | decide) only [zal, za1, zb8, zaj, zae, q_o, zay, lenF, zbe, zd9, ↓reduceIte, q_b, q_f, q_s, q_l, Nat.reduceEqDiff, iD, oD, za9, q3, zhy]
                  refine hK27 _ _ ?_
                  refine zau rfl (fun ht => ?_) (fun ht => ?_)
                  · refine zac hp zao hc rfl fun K28 hK28 => ?_
                    simp -dsimp -implicitDefEqProofs (disch := first | assumption | omega | (simp [maxLen, zab, za3, za4, zaf, zad, zan, zah, zai, zax] <;> omega) | decide) only [zal, zag, zbq, zat, zb6, za1, zb8, zaj, sT_g, zae, gK_t, q_o, za8, zam, zay, lenF, zbe, zd9, ↓reduceIte, q_b, zar, zck, q_f, q_s, q_l, q_n, Nat.reduceEqDiff, beq_self_eq_true, q8, zu0, zjx, zjy, zuz, ztn, zto, zhy]
                    refine hK28 _ _ ?_
                    refine zbc ?_
                    show za7 _ _ = _
                    simp (disch := first | assumption | omega | (simp [maxLen, zab, za3, za4, zaf, zad, zan, zah, zai, zax] <;> omega) | decide) only [za7, retV, zbr, D.fix, zbi, ↓reduceIte, Option.map_some, List.length_nil, oD]
                  · cases ht
              refine zbg ?_
              refine zby hp (fun τ' H' mm => ∃ (i : Nat), (i ≤ P ∧ ∀ j, j < i → t.eval (asn (zcr n.ins.length sh) j) = false) ∧ mm = P - i ∧ H' = [] ∧ τ' = frL [(7, .d (oD true)), (11, .d (.fp (bddC (erow us) [num us t] ++ [iD 0]) 0)), (12, .d (iD (zcr n.ins.length sh))), (14, .d (za9 row)), (15, .d (iD i))]) (P) ?_ ⟨0, ⟨Nat.zero_le _, fun j hj => by omega⟩, rfl, rfl, rfl⟩ ?_
              · refine Rt.end (zaa (zaa (zaa (zaa (zaa (zaq _) rfl) rfl) rfl) rfl) rfl) ?_
                first | rfl | (simp only [zbj, za9, zbp, zbt, zbm, gcH, zb1, zcb, zcc, gc_m, fz_m, zaz, gcVs, gcV, zcy, fzH, zc0, zb9, zcd, zbl, Nat.reduceAdd, fzVs, fzV, posN, zav, zap, List.map_cons, List.map_nil, List.getD_cons_zero, List.getD_cons_succ, ↓reduceIte, Nat.reduceEqDiff, Option.map_some, List.set_cons_zero, List.set_cons_succ, zba, zak, Nat.mul_one, List.length_map, List.cons_append, List.nil_append, rawC, u8D, netD, netC, zbw, zbx, shD, bltD, bddC, zc9]; first | done | rfl)
              rintro τ' H' mm ⟨i, ⟨hi, hlow⟩, rfl, rfl, rfl⟩
              refine zas fun K29 hK29 => ?_
              refine zac hp zao hc rfl fun K30 hK30 => ?_
              by_cases q : i < P
              · have q1 : decide ((i : Int) < row.length) = true := by simp; omega
                have q2 := hre i q
                simp -dsimp -implicitDefEqProofs (disch := first | assumption | omega | (simp [maxLen, zab, za3, za4, zaf, zad, zan, zah, zai, zax] <;> omega) | decide) only [zal, zbq, zat, zdo, za1, zfn, zb8, zaj, sT_g, zae, gK_t, q_o, za8, ixO, za2, zay, lenF, zbe, zfo, zcz, ↓reduceIte, q_b, ifp, zar, zck, q_f, q_s, q_l, Int.toNat_natCast, q_n, Nat.reduceEqDiff, zcg, iD, oD, za9, bddC, q1, zcg, zhy, sz_4, ag_4]
                refine hK30 _ _ ?_
                refine zau rfl (fun ht => ?_) (fun ht => ?_)
                · have hfa : nth row i = false := by simpa using ht
                  refine zbb (hK29 _ _ ?_)
                  refine zbg ?_
                  refine zcw hp zao hc rfl fun K31 hK31 => ?_
                  simp -dsimp -implicitDefEqProofs (disch := first | assumption | omega | (simp [maxLen, zab, za3, za4, zaf, zad, zan, zah, zai, zax] <;> omega) | decide) only [zal, zag, za1, zaj, zae, q_o, zay, zcu, ↓reduceIte, q_b, q_f, Nat.reduceEqDiff]
                  refine hK31 _ _ ⟨_, _, _, ?_, ⟨i + 1, ⟨by omega, fun j hj => by by_cases e : j = i; subst e; rw [← q2]; exact hfa; exact hlow j (by omega)⟩, rfl, rfl, rfl⟩, ?_⟩
                  · first | omega | (simp only [List.length_cons]; omega) | (dsimp only; omega)
                  · refine Rt.end (zaa (zaa (zaa (zaa (zaa (zaq _) rfl) rfl) rfl) rfl) rfl) ?_
                    first | rfl | (simp only [zbj, za9, zbp, zbt, zbm, gcH, zb1, zcb, zcc, gc_m, fz_m, zaz, gcVs, gcV, zcy, fzH, zc0, zb9, zcd, zbl, Nat.reduceAdd, fzVs, fzV, posN, zav, zap, List.map_cons, List.map_nil, List.getD_cons_zero, List.getD_cons_succ, ↓reduceIte, Nat.reduceEqDiff, Option.map_some, List.set_cons_zero, List.set_cons_succ, zba, zak, Nat.mul_one, List.length_map, List.cons_append, List.nil_append, rawC, u8D, netD, netC, zbw, zbx, shD, bltD, bddC, zc9]; first | done | rfl)
                · have htr : nth row i = true := by simpa using ht
                  refine zcl (hJ21 _ _ ⟨_, _, i, ⟨hi, hlow, fun _ => by rw [← q2]; exact htr⟩, rfl, rfl, ?_⟩)
                  refine Rt.end (zaa (zaa (zaa (zaa (zaa (zaq _) rfl) rfl) rfl) rfl) rfl) ?_
                  first | rfl | (simp only [zbj, za9, zbp, zbt, zbm, gcH, zb1, zcb, zcc, gc_m, fz_m, zaz, gcVs, gcV, zcy, fzH, zc0, zb9, zcd, zbl, Nat.reduceAdd, fzVs, fzV, posN, zav, zap, List.map_cons, List.map_nil, List.getD_cons_zero, List.getD_cons_succ, ↓reduceIte, Nat.reduceEqDiff, Option.map_some, List.set_cons_zero, List.set_cons_succ, zba, zak, Nat.mul_one, List.length_map, List.cons_append, List.nil_append, rawC, u8D, netD, netC, zbw, zbx, shD, bltD, bddC, zc9]; first | done | rfl)
              · have q1 : decide ((i : Int) < row.length) = false := by simp; omega
                simp -dsimp -implicitDefEqProofs (disch := first | assumption | omega | (simp [maxLen, zab, za3, za4, zaf, zad, zan, zah, zai, zax] <;> omega) | decide) only [zal, zbq, za1, zb8, zaj, sT_g, zae, gK_f, q_o, zay, lenF, zbe, zcz, ↓reduceIte, q_b, zar, zck, q_f, q_s, q_l, q_n, Nat.reduceEqDiff, iD, oD, za9, bddC, q1, zhy]
                refine hK30 _ _ ?_
                refine zau rfl (fun ht => ?_) (fun ht => ?_)
                · cases ht
                · refine zcl (hJ21 _ _ ⟨_, _, i, ⟨hi, hlow, fun h => absurd h q⟩, rfl, rfl, ?_⟩)
                  refine Rt.end (zaa (zaa (zaa (zaa (zaa (zaq _) rfl) rfl) rfl) rfl) rfl) ?_
                  first | rfl | (simp only [zbj, za9, zbp, zbt, zbm, gcH, zb1, zcb, zcc, gc_m, fz_m, zaz, gcVs, gcV, zcy, fzH, zc0, zb9, zcd, zbl, Nat.reduceAdd, fzVs, fzV, posN, zav, zap, List.map_cons, List.map_nil, List.getD_cons_zero, List.getD_cons_succ, ↓reduceIte, Nat.reduceEqDiff, Option.map_some, List.set_cons_zero, List.set_cons_succ, zba, zak, Nat.mul_one, List.length_map, List.cons_append, List.nil_append, rawC, u8D, netD, netC, zbw, zbx, shD, bltD, bddC, zc9]; first | done | rfl)
end Go.Proofs.Ytgfnpfchdlcoeaa
