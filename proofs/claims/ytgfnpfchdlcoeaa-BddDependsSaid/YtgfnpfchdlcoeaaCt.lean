/- Equal diagrams; the chapter's examples. -/
import Derived.Test.YtgfnpfchdlcoeaaQ
import Derived.Test.YtgfnpfchdlcoeaaCs
set_option linter.unusedVariables false
set_option linter.unusedSimpArgs false
namespace Go.Proofs.Ytgfnpfchdlcoeaa
open Go Go.RowKit
set_option maxRecDepth 100000 in
set_option linter.unusedVariables false in
set_option maxHeartbeats 4000000 in
theorem same_c (ns ns' : List NI) (rs rs' : List Int) (h1 : ns.length ≤ 1000000) (h2 : ns'.length ≤ 1000000) (h3 : rs.length ≤ maxLen) (h4 : rs'.length ≤ maxLen) : zce Try.prog 31 [bdiD ns rs, bdiD ns' rs'] (.d (oD (decide (ns = ns') && decide (rs = rs')))) := by
  unfold maxLen at h3 h4
  refine zb7 (fn := Try.f31) (by kernel_rfl) Try.func31 rfl (Nat.le_of_ble_eq_true rfl) fun c hc hp => ?_
  refine zch (τ' := frL [(0, .d (bdiD ns rs)), (1, .d (bdiD ns' rs'))]) (zaa (zaa (zaq _) rfl) rfl) ?_
  refine zac hp zao hc rfl fun K1 hK1 => ?_
  simp -dsimp -implicitDefEqProofs (disch := first | assumption | omega | (simp [maxLen, zab, zbf] <;> omega) | decide) only [zag, zdy, zbd, zaj, zae, q_o, layF, ↓reduceIte, q_b, q_f, q_s, q_l, zca, D.one, q_n, Nat.reduceEqDiff, zbd, bdiD, bdiC]
  refine hK1 _ _ ?_
  refine zas fun K2 hK2 => ?_
  refine zac hp zao hc rfl fun K3 hK3 => ?_
  rcases (show ns.length ≠ ns'.length ∨ (ns.length = ns'.length ∧ rs.length ≠ rs'.length) ∨ (ns.length = ns'.length ∧ rs.length = rs'.length) by omega) with q | ⟨q, q'⟩ | ⟨q, q'⟩
  · have q1 : ((ns.length : Int) != ns'.length) = true := by simp; omega
    have q2 := q1
    have hx : ns ≠ ns' := fun e => q (by rw [e])
    simp -dsimp -implicitDefEqProofs (disch := first | assumption | omega | (simp [maxLen, zab, zbf] <;> omega) | decide) only [zal, zbq, zat, zb6, za1, zb8, zaj, sT_g, zae, gK_f, q_o, za8, zam, zay, lenF, zbe, zff, ↓reduceIte, q_b, ifp, zar, zbk, q_f, q_s, q_l, q_n, Nat.reduceEqDiff, Nat.reduceAdd, q1, zdc, zen, zeo, zep]
    refine hK3 _ _ ?_
    refine zau rfl (fun ht => ?_) (fun ht => ?_)
    · refine zac hp zao hc rfl fun K4 hK4 => ?_
      simp -dsimp -implicitDefEqProofs (disch := first | assumption | omega | (simp [maxLen, zab, zbf] <;> omega) | decide) only [zag, zaj, q_f]
      refine hK4 _ _ ?_
      refine zbc ?_
      show za7 _ _ = _
      simp (disch := first | assumption | omega | (simp [maxLen, zab, zbf] <;> omega) | decide) only [za7, retV, zbr, Nat.reduceAdd, Nat.zero_add, D.fix, zbi, ↓reduceIte, Option.map_some, List.length_cons, List.length_nil, oD]
      simp [hx]
    · cases ht
  · have q1 : ((ns.length : Int) != ns'.length) = false := by simp; omega
    have q2 : ((rs.length : Int) != rs'.length) = true := by simp; omega
    have hx : rs ≠ rs' := fun e => q' (by rw [e])
    simp -dsimp -implicitDefEqProofs (disch := first | assumption | omega | (simp [maxLen, zab, zbf] <;> omega) | decide) only [zal, zbq, zat, zb6, za1, zb8, zaj, sT_g, zae, gK_t, q_o, za8, zam, zay, lenF, zbe, zff, ↓reduceIte, q_b, ifp, zar, zbk, q_f, q_s, q_l, q_n, Nat.reduceEqDiff, Nat.reduceAdd, q1, q2, zdc, zen, zeo, zep, zeh, zfg, zfh, zea]
    refine hK3 _ _ ?_
    refine zau rfl (fun ht => ?_) (fun ht => ?_)
    · refine zac hp zao hc rfl fun K5 hK5 => ?_
      simp -dsimp -implicitDefEqProofs (disch := first | assumption | omega | (simp [maxLen, zab, zbf] <;> omega) | decide) only [zag, zaj, q_f]
      refine hK5 _ _ ?_
      refine zbc ?_
      show za7 _ _ = _
      simp (disch := first | assumption | omega | (simp [maxLen, zab, zbf] <;> omega) | decide) only [za7, retV, zbr, Nat.reduceAdd, Nat.zero_add, D.fix, zbi, ↓reduceIte, Option.map_some, List.length_cons, List.length_nil, oD]
      simp [hx]
    · cases ht
  · have q1 : ((ns.length : Int) != ns'.length) = false := by simp; omega
    have q2 : ((rs.length : Int) != rs'.length) = false := by simp; omega
    simp -dsimp -implicitDefEqProofs (disch := first | assumption | omega | (simp [maxLen, zab, zbf] <;> omega) | decide) only [zal, zbq, zat, zb6, za1, zb8, zaj, sT_g, zae, gK_t, q_o, za8, zam, zay, lenF, zbe, zff, ↓reduceIte, q_b, ifp, zar, zbk, q_f, q_s, q_l, q_n, Nat.reduceEqDiff, Nat.reduceAdd, q1, q2, zdc, zen, zeo, zep, zeh, zfg, zfh, zea]
    refine hK3 _ _ ?_
    refine zau rfl (fun ht => ?_) (fun ht => ?_)
    · cases ht
    · refine zbb (hK2 _ _ ?_)
      refine zas fun K6 hK6 => ?_
      refine zac hp zao hc rfl fun K7 hK7 => ?_
      simp -dsimp -implicitDefEqProofs (disch := first | assumption | omega | (simp [maxLen, zab, zbf] <;> omega) | decide) only [zag, zaj, q_f]
      refine hK7 _ _ ?_
      refine zbg ?_
      refine zby hp (fun τ' H' mm => ∃ (k : Nat), (k ≤ ns.length ∧ ns.take k = ns'.take k) ∧ mm = ns.length - k ∧ H' = [.cells (avs (bdiC ns rs)), .cells (avs (bdiC ns' rs'))] ∧ τ' = frL [(2, .op 0 0), (3, .op 1 0), (5, .d (iD k))]) (ns.length) ?_ ⟨0, ⟨Nat.zero_le _, rfl⟩, rfl, rfl, rfl⟩ ?_
      · refine Rt.end (zaa (zaa (zaa (zaq _) rfl) rfl) rfl) ?_
        first | rfl | (simp only [zbj, za9, zbp, zbt, zbm, gcH, zb1, zcb, zcc, gc_m, fz_m, zaz, gcVs, gcV, zcy, fzH, zc0, zb9, zcd, zbl, Nat.reduceAdd, fzVs, fzV, posN, zav, zap, List.map_cons, List.map_nil, List.getD_cons_zero, List.getD_cons_succ, ↓reduceIte, Nat.reduceEqDiff, Option.map_some, List.set_cons_zero, List.set_cons_succ, zba, zak, Nat.mul_one, List.length_map, List.cons_append, List.nil_append, bdiD, bdiC, zil, zhu, zim, zin, zio, zh1, ziq, zhv, zd1, zdg, zd2, zdp, zc8]; first | done | rfl)
      rintro τ' H' mm ⟨k, ⟨hk, htk⟩, rfl, rfl, rfl⟩
      refine zas fun K8 hK8 => ?_
      refine zac hp zao hc rfl fun K9 hK9 => ?_
      simp -dsimp -implicitDefEqProofs (disch := first | assumption | omega | (simp [maxLen, zab, zbf] <;> omega) | decide) only [zal, zat, zb6, za1, zb8, zaj, zae, q_o, za8, zam, zay, lenF, zbe, zcz, ↓reduceIte, q_b, ifp, q_f, q_s, q_l, q_n, Nat.reduceEqDiff, zav, zap, iD, Nat.reduceAdd, bdiC, zdc, zen, zeo, zep]
      refine hK9 _ _ ?_
      refine zau rfl (fun ht => ?_) (fun ht => ?_)
      · have hlt : k < ns.length := by simp at ht; omega
        have hlt' : k < ns'.length := by omega
        refine zbb (hK8 _ _ ?_)
        refine zas fun K10 hK10 => ?_
        refine zbg ?_
        refine zcs zao hc mixed rfl (q := 0) (by kernel_rfl) (by kernel_rfl) fun K11 hK11 => ?_
        by_cases heq : nth ns k = nth ns' k
        · have g4 : ((nth ns k).v == (nth ns' k).v && ((nth ns k).lo == (nth ns' k).lo && (nth ns k).hi == (nth ns' k).hi)) = true := by rw [heq]; simp
          simp -dsimp -implicitDefEqProofs (disch := first | assumption | omega | (simp [maxLen, zab, zbf] <;> omega) | decide) only [zco, zcq, zem, ze2, zdt, zc4, zae, q_o, za8, zam, ixO, za2, ↓reduceIte, q_b, ifp, q_f, q_s, q_l, List.append_nil, List.replicate_zero, Bool.and_true, Int.toNat_natCast, q_n, Nat.reduceEqDiff, killAll, iD, Nat.reduceAdd, zhv, zd1, zdg, zd2, zdp, zc8, zq3, niC, g4, zdc, zen, zeo, zep, zis, zje, zs8 eq_83]
          refine hK11 _ _ ?_
          refine zau rfl (fun ht => ?_) (fun ht => ?_)
          · cases ht
          · refine zbb (hK10 _ _ ?_)
            refine zcw hp zao hc rfl fun K12 hK12 => ?_
            simp -dsimp -implicitDefEqProofs (disch := first | assumption | omega | (simp [maxLen, zab, zbf] <;> omega) | decide) only [zal, zag, za1, zaj, zae, q_o, zay, zcu, ↓reduceIte, q_b, q_f, Nat.reduceEqDiff]
            refine hK12 _ _ ⟨_, _, _, ?_, ⟨k + 1, ⟨by omega, zib hlt hlt' htk heq⟩, rfl, rfl, rfl⟩, ?_⟩
            · first | omega | (simp only [List.length_cons]; omega) | (dsimp only; omega)
            · refine Rt.end (zaa (zaa (zaa (zaq _) rfl) rfl) rfl) ?_
              first | rfl | (simp only [zbj, za9, zbp, zbt, zbm, gcH, zb1, zcb, zcc, gc_m, fz_m, zaz, gcVs, gcV, zcy, fzH, zc0, zb9, zcd, zbl, Nat.reduceAdd, fzVs, fzV, posN, zav, zap, List.map_cons, List.map_nil, List.getD_cons_zero, List.getD_cons_succ, ↓reduceIte, Nat.reduceEqDiff, Option.map_some, List.set_cons_zero, List.set_cons_succ, zba, zak, Nat.mul_one, List.length_map, List.cons_append, List.nil_append, bdiD, bdiC, zil, zhu, zim, zin, zio, zh1, ziq, zhv, zd1, zdg, zd2, zdp, zc8]; first | done | rfl)
        · have g4 : ((nth ns k).v == (nth ns' k).v && ((nth ns k).lo == (nth ns' k).lo && (nth ns k).hi == (nth ns' k).hi)) = false := by
            rw [Bool.eq_false_iff]
            intro h
            simp only [Bool.and_eq_true, beq_iff_eq] at h
            exact heq (ni_eq.1 h)
          have hx : ns ≠ ns' := fun e => heq (by rw [e])
          simp -dsimp -implicitDefEqProofs (disch := first | assumption | omega | (simp [maxLen, zab, zbf] <;> omega) | decide) only [zco, zcq, zem, ze2, zdt, zc4, zae, q_o, za8, zam, ixO, za2, ↓reduceIte, q_b, ifp, q_f, q_s, q_l, List.append_nil, List.replicate_zero, Bool.and_true, Int.toNat_natCast, q_n, Nat.reduceEqDiff, killAll, iD, Nat.reduceAdd, zhv, zd1, zdg, zd2, zdp, zc8, zq3, niC, g4, zdc, zen, zeo, zep, zis, zje, zs8 eq_83]
          refine hK11 _ _ ?_
          refine zau rfl (fun ht => ?_) (fun ht => ?_)
          · refine zac hp zao hc rfl fun K13 hK13 => ?_
            simp -dsimp -implicitDefEqProofs (disch := first | assumption | omega | (simp [maxLen, zab, zbf] <;> omega) | decide) only [zag, zaj, q_f]
            refine hK13 _ _ ?_
            refine zbc ?_
            show za7 _ _ = _
            simp (disch := first | assumption | omega | (simp [maxLen, zab, zbf] <;> omega) | decide) only [za7, retV, zbr, Nat.reduceAdd, Nat.zero_add, D.fix, zbi, ↓reduceIte, Option.map_some, List.length_cons, List.length_nil, oD]
            simp [hx]
          · cases ht
      · have hke : k = ns.length := by simp at ht; omega
        have hne : ns = ns' := by rw [hke, List.take_length, q, List.take_length] at htk; exact htk
        refine zcl (hK6 _ _ ?_)
        refine zas fun K14 hK14 => ?_
        refine zac hp zao hc rfl fun K15 hK15 => ?_
        simp -dsimp -implicitDefEqProofs (disch := first | assumption | omega | (simp [maxLen, zab, zbf] <;> omega) | decide) only [zag, zaj, q_f]
        refine hK15 _ _ ?_
        refine zbg ?_
        refine zby hp (fun τ' H' mm => ∃ (k : Nat), (k ≤ rs.length ∧ rs.take k = rs'.take k) ∧ mm = rs.length - k ∧ H' = [.cells (avs (bdiC ns rs)), .cells (avs (bdiC ns' rs'))] ∧ τ' = frL [(2, .op 0 0), (3, .op 1 0), (6, .d (iD k))]) (rs.length) ?_ ⟨0, ⟨Nat.zero_le _, rfl⟩, rfl, rfl, rfl⟩ ?_
        · refine Rt.end (zaa (zaa (zaa (zaq _) rfl) rfl) rfl) ?_
          first | rfl | (simp only [zbj, za9, zbp, zbt, zbm, gcH, zb1, zcb, zcc, gc_m, fz_m, zaz, gcVs, gcV, zcy, fzH, zc0, zb9, zcd, zbl, Nat.reduceAdd, fzVs, fzV, posN, zav, zap, List.map_cons, List.map_nil, List.getD_cons_zero, List.getD_cons_succ, ↓reduceIte, Nat.reduceEqDiff, Option.map_some, List.set_cons_zero, List.set_cons_succ, zba, zak, Nat.mul_one, List.length_map, List.cons_append, List.nil_append, bdiD, bdiC, zil, zhu, zim, zin, zio, zh1, ziq, zhv, zd1, zdg, zd2, zdp, zc8]; first | done | rfl)
        rintro τ' H' mm ⟨k, ⟨hk1, htk1⟩, rfl, rfl, rfl⟩
        refine zas fun K16 hK16 => ?_
        refine zac hp zao hc rfl fun K17 hK17 => ?_
        simp -dsimp -implicitDefEqProofs (disch := first | assumption | omega | (simp [maxLen, zab, zbf] <;> omega) | decide) only [zal, zat, zb6, za1, zb8, zaj, zae, q_o, za8, zam, zay, lenF, zbe, zcz, ↓reduceIte, q_b, ifp, q_f, q_s, q_l, q_n, Nat.reduceEqDiff, zav, zap, iD, Nat.reduceAdd, bdiC, zeh, zfg, zfh, zea]
        refine hK17 _ _ ?_
        refine zau rfl (fun ht => ?_) (fun ht => ?_)
        · have hlt : k < rs.length := by simp at ht; omega
          have hlt' : k < rs'.length := by omega
          refine zbb (hK16 _ _ ?_)
          refine zas fun K18 hK18 => ?_
          refine zbg ?_
          refine zcs zao hc mixed rfl (q := 0) (by kernel_rfl) (by kernel_rfl) fun K19 hK19 => ?_
          simp -dsimp -implicitDefEqProofs (disch := first | assumption | omega | (simp [maxLen, zab, zbf] <;> omega) | decide) only [zco, zcq, zem, ze2, zdt, zc4, zae, q_o, za8, zam, ixO, za2, zay, zff, ↓reduceIte, q_b, ifp, q_f, q_l, List.append_nil, List.replicate_zero, Int.toNat_natCast, q_n, Nat.reduceEqDiff, killAll, zcg, iD, Nat.reduceAdd, zcg, zeh, zfg, zfh, zea, sz_3, ag_3]
          refine hK19 _ _ ?_
          refine zau rfl (fun ht => ?_) (fun ht => ?_)
          · have hx : rs ≠ rs' := fun e => by subst e; simp at ht
            refine zac hp zao hc rfl fun K20 hK20 => ?_
            simp -dsimp -implicitDefEqProofs (disch := first | assumption | omega | (simp [maxLen, zab, zbf] <;> omega) | decide) only [zag, zaj, q_f]
            refine hK20 _ _ ?_
            refine zbc ?_
            show za7 _ _ = _
            simp (disch := first | assumption | omega | (simp [maxLen, zab, zbf] <;> omega) | decide) only [za7, retV, zbr, Nat.reduceAdd, Nat.zero_add, D.fix, zbi, ↓reduceIte, Option.map_some, List.length_cons, List.length_nil, oD]
            simp [hx]
          · refine zbb (hK18 _ _ ?_)
            refine zcw hp zao hc rfl fun K21 hK21 => ?_
            simp -dsimp -implicitDefEqProofs (disch := first | assumption | omega | (simp [maxLen, zab, zbf] <;> omega) | decide) only [zal, zag, za1, zaj, zae, q_o, zay, zcu, ↓reduceIte, q_b, q_f, Nat.reduceEqDiff]
            refine hK21 _ _ ⟨_, _, _, ?_, ⟨k + 1, ⟨by omega, zib hlt hlt' htk1 (by simpa using ht)⟩, rfl, rfl, rfl⟩, ?_⟩
            · first | omega | (simp only [List.length_cons]; omega) | (dsimp only; omega)
            · refine Rt.end (zaa (zaa (zaa (zaq _) rfl) rfl) rfl) ?_
              first | rfl | (simp only [zbj, za9, zbp, zbt, zbm, gcH, zb1, zcb, zcc, gc_m, fz_m, zaz, gcVs, gcV, zcy, fzH, zc0, zb9, zcd, zbl, Nat.reduceAdd, fzVs, fzV, posN, zav, zap, List.map_cons, List.map_nil, List.getD_cons_zero, List.getD_cons_succ, ↓reduceIte, Nat.reduceEqDiff, Option.map_some, List.set_cons_zero, List.set_cons_succ, zba, zak, Nat.mul_one, List.length_map, List.cons_append, List.nil_append, bdiD, bdiC, zil, zhu, zim, zin, zio, zh1, ziq, zhv, zd1, zdg, zd2, zdp, zc8]; first | done | rfl)
        · have hke : k = rs.length := by simp at ht; omega
          have hre : rs = rs' := by rw [hke, List.take_length, q', List.take_length] at htk1; exact htk1
          refine zcl (hK14 _ _ ?_)
          refine zac hp zao hc rfl fun K22 hK22 => ?_
          simp -dsimp -implicitDefEqProofs (disch := first | assumption | omega | (simp [maxLen, zab, zbf] <;> omega) | decide) only [zag, zaj, q_f]
          refine hK22 _ _ ?_
          refine zbc ?_
          show za7 _ _ = _
          simp (disch := first | assumption | omega | (simp [maxLen, zab, zbf] <;> omega) | decide) only [za7, retV, zbr, Nat.reduceAdd, Nat.zero_add, D.fix, zbi, ↓reduceIte, Option.map_some, List.length_cons, List.length_nil, oD]
          simp [hne, hre]
def bliD (ns : List NI) (rs : List Int) (e : Int) : D := .agg (bdiC ns rs ++ [iD e])
set_option maxRecDepth 100000 in
set_option linter.unusedVariables false in
set_option maxHeartbeats 4000000 in
theorem alike_c (ns ns' : List NI) (rs rs' : List Int) (e e' : Int) (h1 : ns.length ≤ 1000000) (h2 : ns'.length ≤ 1000000) (h3 : rs.length ≤ maxLen) (h4 : rs'.length ≤ maxLen) : zce Try.prog 14 [bliD ns rs e, bliD ns' rs' e'] (.d (oD (decide (e = e') && (decide (ns = ns') && decide (rs = rs'))))) := by
  refine zb7 (fn := Try.f14) (by kernel_rfl) Try.func14 rfl (Nat.le_of_ble_eq_true rfl) fun c hc hp => ?_
  refine zch (τ' := frL [(0, .d (bliD ns rs e)), (1, .d (bliD ns' rs' e'))]) (zaa (zaa (zaq _) rfl) rfl) ?_
  refine zac hp zao hc rfl fun K1 hK1 => ?_
  simp -dsimp -implicitDefEqProofs (disch := first | assumption | omega | (simp [maxLen, zab, zbf] <;> omega) | decide) only [zag, zdy, zbd, zaj, zae, q_o, layF, ↓reduceIte, q_b, q_f, q_s, q_l, zca, D.one, Value.oneCell', q_n, Nat.reduceEqDiff, iD, zbd, bliD, bdiC]
  refine hK1 _ _ ?_
  refine zac hp zao hc rfl fun K2 hK2 => ?_
  by_cases he : e = e'
  · have q1 : (e == e') = true := by simp [he]
    simp -dsimp -implicitDefEqProofs (disch := first | assumption | omega | (simp [maxLen, zab, zbf] <;> omega) | decide) only [zal, zat, zb6, za1, zbh, sT_g, zae, gK_t, q_o, za8, zam, zay, zd9, ↓reduceIte, q_b, ifp, zar, zck, q_f, q_s, q_l, q_n, Nat.reduceEqDiff, zdm, zej, Nat.reduceAdd, q1, zgr, zjx, zjy, zhf, zez, zft]
    refine zda (same_c ns ns' rs rs' h1 h2 h3 h4) rfl ?_
    simp -dsimp -implicitDefEqProofs (disch := first | assumption | omega | (simp [maxLen, zab, zbf] <;> omega) | decide) only [zag, zbq, zaj, zae, ↓reduceIte, q_b, q_f, Nat.reduceEqDiff, oD]
    refine hK2 _ _ ?_
    refine zbc ?_
    show za7 _ _ = _
    simp (disch := first | assumption | omega | (simp [maxLen, zab, zbf] <;> omega) | decide) only [za7, retV, zbr, Nat.reduceAdd, Nat.zero_add, D.fix, zbi, ↓reduceIte, Option.map_some, List.length_cons, List.length_nil, oD]
    simp [he]
  · have q1 : (e == e') = false := by simp [he]
    simp -dsimp -implicitDefEqProofs (disch := first | assumption | omega | (simp [maxLen, zab, zbf] <;> omega) | decide) only [zal, zag, zbq, zat, zb6, za1, zaj, sT_g, zae, gK_f, q_o, za8, zam, zay, zd9, ↓reduceIte, q_b, ifp, zar, zck, q_f, q_l, q_n, Nat.reduceEqDiff, Nat.reduceAdd, q1, zgr, zjx, zjy]
    refine hK2 _ _ ?_
    refine zbc ?_
    show za7 _ _ = _
    simp (disch := first | assumption | omega | (simp [maxLen, zab, zbf] <;> omega) | decide) only [za7, retV, zbr, Nat.reduceAdd, Nat.zero_add, D.fix, zbi, ↓reduceIte, Option.map_some, List.length_cons, List.length_nil, oD]
    simp [he]
/-! ### The diagrams that are built, as they come -/
def toI (n : Nd) : NI := ⟨n.v, n.lo, n.hi⟩
theorem toI_C (l : List Nd) : l.flatMap ndC = (l.map toI).flatMap niC := by rw [List.flatMap_map]; rfl
theorem nat_I (l : List Nat) : l.map natD = (l.map fun (k : Nat) => (k : Int)).map iD := by rw [List.map_map]; rfl
theorem bdd_I (ns : List Nd) (rs : List Nat) : bddC ns rs = bdiC (ns.map toI) (rs.map fun (k : Nat) => (k : Int)) := by
  unfold bddC bdiC
  rw [toI_C, nat_I, List.length_map, List.length_map]
theorem bddD_I (ns : List Nd) (rs : List Nat) : bddD ns rs = bdiD (ns.map toI) (rs.map fun (k : Nat) => (k : Int)) := by unfold bddD bdiD; rw [bdd_I]
theorem bltD_I (ns : List Nd) (rs : List Nat) (e : Int) : bltD ns rs e = bliD (ns.map toI) (rs.map fun (k : Nat) => (k : Int)) e := by unfold bltD bliD; rw [bdd_I]
end Go.Proofs.Ytgfnpfchdlcoeaa
