/- The theorem of the support. -/
import Derived.Test.YtgfnpfchdlcoeaaQ
import Derived.Test.YtgfnpfchdlcoeaaGez
set_option linter.unusedVariables false
set_option linter.unusedSimpArgs false
namespace Go.Proofs.Ytgfnpfchdlcoeaa
open Go Go.RowKit
theorem xor_nat {a b : Nat} (ha : a < 2 ^ 62) (hb : b < 2 ^ 62) : bitV .xor .i64 (a : Int) (b : Int) = ((a ^^^ b : Nat) : Int) := by
  have hx : a ^^^ b < 2 ^ 62 := Nat.xor_lt_two_pow ha hb
  show IntKind.i64.wrap ((BitVec.ofInt 64 (a : Int) ^^^ BitVec.ofInt 64 (b : Int)).toNat : Int) = _
  have h1 : ∀ c : Nat, c < 2 ^ 62 → (BitVec.ofInt 64 (c : Int)).toNat = c := fun c hc => by rw [BitVec.toNat_ofInt]; omega
  rw [BitVec.toNat_xor, h1 a ha, h1 b hb]
  exact zh2 (by omega) (by omega)
/-- Whether one of the first assignments tells. -/
def tells (row : List Bool) (b i : Nat) : Bool := (List.range i).any fun j => nth row j != nth row (j ^^^ b)
theorem tells_s (row : List Bool) (b i : Nat) : tells row b (i + 1) = (tells row b i || (nth row i != nth row (i ^^^ b))) := by
  unfold tells
  rw [List.range_succ, List.any_append]
  simp
theorem tells_vs {n v : Nat} {t : T} (hok : t.Ok n 0) (hv : v < n) {row : List Bool} {P : Nat} (hP : P = 2 ^ n) (hr : ∀ j, j < P → nth row j = t.eval (asn n j)) : tells row (2 ^ (n - 1 - v)) P = decide (v ∈ t.vs) := by
  have key : tells row (2 ^ (n - 1 - v)) P = true ↔ v ∈ t.vs := by
    rw [vs_iff hok hv]
    unfold tells
    rw [List.any_eq_true]
    constructor
    · rintro ⟨j, hj, h⟩
      rw [List.mem_range] at hj
      rw [hr j hj, hr _ (by rw [hP] at hj ⊢; exact xor_lt hj hv)] at h
      exact ⟨j, by rw [← hP]; exact hj, by simpa using h⟩
    · rintro ⟨j, hj, h⟩
      refine ⟨j, List.mem_range.2 (by rw [hP]; exact hj), ?_⟩
      rw [hr j (by rw [hP]; exact hj), hr _ (by rw [hP]; exact xor_lt hj hv)]
      simpa using h
  by_cases h : v ∈ t.vs
  · rw [decide_eq_true h]; exact key.2 h
  · rw [decide_eq_false h]
    cases hc : tells row (2 ^ (n - 1 - v)) P
    · rfl
    · exact absurd (key.1 hc) h
def zmo (t : T) (j : Nat) : List Int := ((List.range j).filter fun v => decide (v ∈ t.vs)).map fun (v : Nat) => (v : Int)
theorem wantL_s (t : T) (j : Nat) : zmo t (j + 1) = if j ∈ t.vs then zmo t j ++ [(j : Int)] else zmo t j := by
  unfold zmo
  rw [List.range_succ, List.filter_append, List.map_append]
  by_cases h : j ∈ t.vs
  · rw [if_pos h]; simp [h]
  · rw [if_neg h]; simp [h]
theorem zt6 (t : T) (j : Nat) : (zmo t j).length ≤ j := by
  unfold zmo
  rw [List.length_map]
  exact Nat.le_trans (List.length_filter_le _ _) (by simp)
set_option maxRecDepth 100000 in
set_option linter.unusedVariables false in
set_option maxHeartbeats 4000000 in
theorem zvm (x : RawN) (hx : RawOk x) (b0 b1 b2 : Nat) (h0 : b0 < 256) (h1 : b1 < 256) (h2 : b2 < 256) (k : Nat) (hk : k < 256) : zce Try.prog 9 [.agg (rawC x), .agg [u8D b0, u8D b1, u8D b2], u8D k] (.d (oD true)) := by
  refine zb7 (fn := Try.f9) (by kernel_rfl) Try.func9 rfl (Nat.le_of_ble_eq_true rfl) fun c hc hp => ?_
  refine zch (τ' := frL [(0, .d (.agg (rawC x))), (1, .d (.agg [u8D b0, u8D b1, u8D b2])), (2, .d (u8D k))]) (zaa (zaa (zaa (zaq _) rfl) rfl) rfl) ?_
  refine zac hp zao hc rfl fun K1 hK1 => ?_
  simp -dsimp -implicitDefEqProofs (disch := first | assumption | omega | (simp [maxLen, zab, za3, za4, zaf, zad, zan, zah, zai, zax] <;> omega) | decide) only [zag, zdy, zbd, zaj, zae, q_o, layF, ↓reduceIte, q_b, q_f, q_s, q_l, zca, D.one, Value.oneCell', q_n, Nat.reduceEqDiff, bD, zbp, zbd, rawC, u8D]
  refine hK1 _ _ ?_
  refine zac hp zao hc rfl fun K2 hK2 => ?_
  simp -dsimp -implicitDefEqProofs (disch := first | assumption | omega | (simp [maxLen, zab, za3, za4, zaf, zad, zan, zah, zai, zax] <;> omega) | decide) only [zbh, q_f, q_s, q_l, q_n, Nat.reduceAdd]
  refine zda (zkv) rfl ?_
  simp -dsimp -implicitDefEqProofs (disch := first | assumption | omega | (simp [maxLen, zab, za3, za4, zaf, zad, zan, zah, zai, zax] <;> omega) | decide) only [zag, zaj, ↓reduceIte, q_b, q_f, oD]
  refine hK2 _ _ ?_
  refine zas fun K3 hK3 => ?_
  refine zac hp zao hc rfl fun K4 hK4 => ?_
  rcases (show fewB x = false ∨ fewB x = true by cases fewB x <;> simp) with q | q
  · have hf := zt4 x
    rw [q] at hf
    simp -dsimp -implicitDefEqProofs (disch := first | assumption | omega | (simp [maxLen, zab, za3, za4, zaf, zad, zan, zah, zai, zax] <;> omega) | decide) only [zal, zat, zfn, zbh, sT_g, zae, gK_t, q_o, za8, zfo, ↓reduceIte, q_b, ifp, zar, zbk, q_f, q_s, q_l, q_n, Nat.reduceEqDiff, zak, Nat.reduceAdd, zkx, zky]
    refine zda (hf) rfl ?_
    simp -dsimp -implicitDefEqProofs (disch := first | assumption | omega | (simp [maxLen, zab, za3, za4, zaf, zad, zan, zah, zai, zax] <;> omega) | decide) only [zbq, zfn, zaj, sT_g, zae, gK_t, q_o, zfo, ↓reduceIte, q_b, zar, zbk, q_f, q_l, Nat.reduceEqDiff, oD]
    refine hK4 _ _ ?_
    refine zau rfl (fun ht => ?_) (fun ht => ?_)
    · refine zac hp zao hc rfl fun K5 hK5 => ?_
      simp -dsimp -implicitDefEqProofs (disch := first | assumption | omega | (simp [maxLen, zab, za3, za4, zaf, zad, zan, zah, zai, zax] <;> omega) | decide) only [zal, zag, zaj, ↓reduceIte, q_b, q_f, Nat.reduceEqDiff]
      refine hK5 _ _ ?_
      refine zbc ?_
      show za7 _ _ = _
      simp (disch := first | assumption | omega | (simp [maxLen, zab, za3, za4, zaf, zad, zan, zah, zai, zax] <;> omega) | decide) only [za7, retV, zbr, Nat.reduceAdd, Nat.zero_add, D.fix, zbi, ↓reduceIte, Option.map_some, List.length_cons, List.length_nil, oD]
    · cases ht
  · have hf := zt4 x
    rw [q] at hf
    simp -dsimp -implicitDefEqProofs (disch := first | assumption | omega | (simp [maxLen, zab, za3, za4, zaf, zad, zan, zah, zai, zax] <;> omega) | decide) only [zal, zat, zfn, zbh, sT_g, zae, gK_t, q_o, za8, zfo, ↓reduceIte, q_b, ifp, zar, zbk, q_f, q_s, q_l, q_n, Nat.reduceEqDiff, zak, Nat.reduceAdd, zkx, zky]
    refine zda (hf) rfl ?_
    simp -dsimp -implicitDefEqProofs (disch := first | assumption | omega | (simp [maxLen, zab, za3, za4, zaf, zad, zan, zah, zai, zax] <;> omega) | decide) only [zbq, zfn, zaj, sT_g, zae, gK_t, q_o, zfo, ↓reduceIte, q_b, zar, zbk, q_f, q_l, Nat.reduceEqDiff, oD]
    refine hK4 _ _ ?_
    refine zau rfl (fun ht => ?_) (fun ht => ?_)
    · cases ht
    · refine zbb (hK3 _ _ ?_)
      refine zac hp zao hc rfl fun K6 hK6 => ?_
      simp -dsimp -implicitDefEqProofs (disch := first | assumption | omega | (simp [maxLen, zab, za3, za4, zaf, zad, zan, zah, zai, zax] <;> omega) | decide) only [zat, zbh, zae, q_o, za8, ↓reduceIte, q_b, ifp, q_f, q_s, q_l, q_n, Nat.reduceEqDiff, zak, Nat.reduceAdd, zkx, zky]
      refine znh (made_c x hx) rfl fun r hr => ?_
      obtain ⟨n, hn, rfl⟩ := hr
      simp -dsimp -implicitDefEqProofs (disch := first | assumption | omega | (simp [maxLen, zab, za3, za4, zaf, zad, zan, zah, zai, zax] <;> omega) | decide) only [zcm, zbu, zbd, zaj, zae, q_o, layF, zb4, ↓reduceIte, q_b, ifp, q_f, q_s, q_l, zca, q_a, D.one, q_n, Nat.reduceEqDiff, zdk, zav, zap, zbj, Nat.reduceAdd, zbd, netD, netC, zbw, zbx, zes, ztp]
      refine hK6 _ _ ?_
      refine zac hp zao hc rfl fun K7 hK7 => ?_
      simp -dsimp -implicitDefEqProofs (disch := first | assumption | omega | (simp [maxLen, zab, za3, za4, zaf, zad, zan, zah, zai, zax] <;> omega) | decide) only [zat, zbh, zae, q_o, za8, ↓reduceIte, q_b, ifp, q_f, q_s, q_l, q_n, Nat.reduceEqDiff, zak, Nat.reduceAdd, sz_27, ag_27]
      refine zda (zsi b0 b1 b2 h0 h1 h2) rfl ?_
      simp -dsimp -implicitDefEqProofs (disch := first | assumption | omega | (simp [maxLen, zab, za3, za4, zaf, zad, zan, zah, zai, zax] <;> omega) | decide) only [zag, zaj, ↓reduceIte, q_b, q_f, shD]
      obtain ⟨sh, hshd⟩ : ∃ sh, sh = shpL 5 [b0, b1, b2] := ⟨_, rfl⟩
      have hsh : ShOk sh := by rw [hshd]; exact shp_ok _ rfl _
      have hsv : zcr n.ins.length sh ≤ n.ins.length + 5 := by rw [hshd]; exact zoq _ _
      rw [← hshd]
      have hnb := hn.b
      have hi9 := hnb.i1
      have hg200 := hnb.g1
      obtain ⟨kn, hkn⟩ : ∃ kn, kn = k % (2 + n.ins.length + n.gates.length) := ⟨_, rfl⟩
      have hkl : kn < 2 + n.ins.length + n.gates.length := by rw [hkn]; exact Nat.mod_lt _ (by omega)
      have hkm : (k : Int) % (2 + (n.ins.length : Int) + (n.gates.length : Int)) = (kn : Int) := by rw [hkn]; push_cast; rfl
      have hkw : IntKind.i64.wrap (k : Int) = k := zh2 (by omega) (by omega)
      have hno := one_no hkl
      have hBI := bin_of (nodes := [(kn : Int)]) hnb.i1 hnb.g1 hsh hsv hnb.g2 hno (by simp)
      refine hK7 _ _ ?_
      refine zcx hp (τ' := frL [(2, .d (u8D k)), (7, .d (oD true)), (8, .d (.fp (netC n) 0)), (9, .d (shD sh))]) (H' := []) ?_ ?_
      · refine Rt.trans (Rt.fz (id := 2) (l := netC n) rfl) ?_
        refine Rt.trans (Rt.gc (keep := []) (by decide) (by decide) (by simp [fzH])) ?_
        refine Rt.end (zaa (zaa (zaa (zaa (zaq _) rfl) rfl) rfl) rfl) ?_
        first | rfl | (simp only [zbj, za9, zbp, zbt, zbm, gcH, zb1, zcb, zcc, gc_m, fz_m, zaz, gcVs, gcV, zcy, fzH, zc0, zb9, zcd, zbl, Nat.reduceAdd, fzVs, fzV, posN, zav, zap, List.map_cons, List.map_nil, List.getD_cons_zero, List.getD_cons_succ, ↓reduceIte, Nat.reduceEqDiff, Option.map_some, List.set_cons_zero, List.set_cons_succ, zba, zak, Nat.mul_one, List.length_map, List.cons_append, List.nil_append, rawC, u8D, netD, netC, zbw, zbx, shD, bltD, bddC, zc9]; first | done | rfl)
      refine zac hp zao hc rfl fun K8 hK8 => ?_
      simp -dsimp -implicitDefEqProofs (disch := first | assumption | omega | (simp [maxLen, zab, za3, za4, zaf, zad, zan, zah, zai, zax] <;> omega) | decide) only [zal, zat, ze8, zbh, zae, q_o, za8, zgx, ↓reduceIte, q_b, q_f, q_s, q_l, Nat.reduceEqDiff, zak, bD, oD, zbj, u8D, netC, zbw, zbx, shD, hkw, ik_5, ik_3, zes, zfi]
      refine zda (zit n (by omega) (by omega)) rfl ?_
      simp -dsimp -implicitDefEqProofs (disch := first | assumption | omega | (simp [maxLen, zab, za3, za4, zaf, zad, zan, zah, zai, zax] <;> omega) | decide) only [zag, za1, zaj, zae, q_o, zay, zix, ↓reduceIte, q_b, q_f, Nat.reduceEqDiff, iD, hkm]
      refine hK8 _ _ ?_
      have hbc := zna _ n sh [(kn : Int)] hBI
      refine zac hp zao hc rfl fun K9 hK9 => ?_
      simp -dsimp -implicitDefEqProofs (disch := first | assumption | omega | (simp [maxLen, zab, za3, za4, zaf, zad, zan, zah, zai, zax] <;> omega) | decide) only [zal, zat, zbh, zdw, zbd, zae, q_o, za8, layF, ↓reduceIte, q_b, ifp, ifn, q_f, q_s, q_l, List.replicate_zero, List.replicate_succ, zbv, q_a, zbn, q_n, Nat.reduceEqDiff, zak, zbd, zes, zfi, zgp]
      refine kc_allr (hbc) (by simp (disch := first | assumption | omega | (simp [maxLen, zab, za3, za4, zaf, zad, zan, zah, zai, zax] <;> omega) | decide) only [List.map_cons, List.map_nil, zbr, zb5, zb0, zcn, zcf, zc7, Nat.reduceAdd, Nat.zero_add, zak, D.fix, Option.map_some, Option.bind_some, Nat.mul_one, List.getElem?_cons_zero, List.length_cons, List.length_nil, iD, zbj, netD, netC, zbw, zbx, shD] <;> rfl) fun r hr0 => ?_
      obtain ⟨ns, rs, e, rfl, hr⟩ := hr0
      have hbt := hr.blt (by omega) hno
      simp -dsimp -implicitDefEqProofs (disch := first | assumption | omega | (simp [maxLen, zab, za3, za4, zaf, zad, zan, zah, zai, zax] <;> omega) | decide) only [zcm, zbu, zbd, zaj, zae, q_o, layF, zb4, ↓reduceIte, q_b, ifp, q_f, q_s, q_l, zca, q_a, D.one, Value.oneCell', q_n, Nat.reduceEqDiff, zdk, zav, zap, iD, Nat.reduceAdd, zbd, bltD, bddC, zns, ztq]
      refine hK9 _ _ ?_
      refine zas fun K10 hK10 => ?_
      refine zcx hp (τ' := frL [(7, .d (oD true)), (8, .d (.fp (netC n) 0)), (9, .d (shD sh)), (10, .d (iD kn)), (11, .d (.fp (bddC ns rs ++ [iD e]) 0))]) (H' := []) ?_ ?_
      · refine Rt.trans (Rt.fz (id := 1) (l := bddC ns rs ++ [iD e]) rfl) ?_
        refine Rt.trans (Rt.gc (keep := []) (by decide) (by decide) (by simp [fzH])) ?_
        refine Rt.end (zaa (zaa (zaa (zaa (zaa (zaq _) rfl) rfl) rfl) rfl) rfl) ?_
        first | rfl | (simp only [zbj, za9, zbp, zbt, zbm, gcH, zb1, zcb, zcc, gc_m, fz_m, zaz, gcVs, gcV, zcy, fzH, zc0, zb9, zcd, zbl, Nat.reduceAdd, fzVs, fzV, posN, zav, zap, List.map_cons, List.map_nil, List.getD_cons_zero, List.getD_cons_succ, ↓reduceIte, Nat.reduceEqDiff, Option.map_some, List.set_cons_zero, List.set_cons_succ, zba, zak, Nat.mul_one, List.length_map, List.cons_append, List.nil_append, rawC, u8D, netD, netC, zbw, zbx, shD, bltD, bddC, zc9]; first | done | rfl)
      refine zac hp zao hc rfl fun K11 hK11 => ?_
      rcases hbt with rfl | ⟨rfl, fs, us, rfl, hB⟩
      · simp -dsimp -implicitDefEqProofs (disch := first | assumption | omega | (simp [maxLen, zab, za3, za4, zaf, zad, zan, zah, zai, zax] <;> omega) | decide) only [zat, zb6, za1, zaj, zae, q_o, za8, zam, zay, zff, ↓reduceIte, q_b, q_f, q_l, q_s, q_n, Nat.reduceEqDiff, iD, oD, zbj, netC, zbw, zbx, shD, bddC, Int.reduceBNe, zgr, zjx, zjy]
        refine hK11 _ _ ?_
        refine zau rfl (fun ht => ?_) (fun ht => ?_)
        · refine zac hp zao hc rfl fun K12 hK12 => ?_
          simp -dsimp -implicitDefEqProofs (disch := first | assumption | omega | (simp [maxLen, zab, za3, za4, zaf, zad, zan, zah, zai, zax] <;> omega) | decide) only [zal, zag, zbq, zat, zb6, za1, zaj, sT_g, zae, gK_t, q_o, za8, zam, zay, zd9, ↓reduceIte, q_b, zar, zck, q_f, q_l, q_n, Nat.reduceEqDiff, beq_self_eq_true, zgr, zjx, zjy]
          refine hK12 _ _ ?_
          refine zbc ?_
          show za7 _ _ = _
          simp (disch := first | assumption | omega | (simp [maxLen, zab, za3, za4, zaf, zad, zan, zah, zai, zax] <;> omega) | decide) only [za7, retV, zbr, D.fix, zbi, ↓reduceIte, Option.map_some, List.length_nil, oD]
        · cases ht
      · simp -dsimp -implicitDefEqProofs (disch := first | assumption | omega | (simp [maxLen, zab, za3, za4, zaf, zad, zan, zah, zai, zax] <;> omega) | decide) only [zat, zb6, za1, zaj, zae, q_o, za8, zam, zay, zff, ↓reduceIte, q_b, q_f, q_l, q_s, q_n, Nat.reduceEqDiff, iD, oD, zbj, netC, zbw, zbx, shD, bddC, bne_self_eq_false, zgr, zjx, zjy]
        refine hK11 _ _ ?_
        refine zau rfl (fun ht => ?_) (fun ht => ?_)
        · cases ht
        · refine zbb (hK10 _ _ ?_)
          refine zas fun K13 hK13 => ?_
          obtain ⟨hO, hrs⟩ := one_of hkl hB
          obtain ⟨t, htd⟩ : ∃ t, t = nth fs kn := ⟨_, rfl⟩
          have hval := zpv hO.row (by omega) hO.len (rs := rs) fun k hk => by
            rw [hrs] at hk
            rw [List.mem_singleton.1 hk]
            exact zer hO.hin
          have hk1 := zsh ((erow us).map toI) (rs.map fun (k : Nat) => (k : Int)) (by rw [erow_I]; unfold maxLen; have := hO.len; omega) (by rw [List.length_map, hrs]; simp)
          rw [hval, ← bddD_I, hrs, ← htd] at hk1
          rw [← htd] at hO
          rw [hrs, ← htd]
          have q9 : (((1 : Nat) : Int) != 1) = false := rfl
          refine zac hp zao hc rfl fun K14 hK14 => ?_
          simp -dsimp -implicitDefEqProofs (disch := first | assumption | omega | (simp [maxLen, zab, za3, za4, zaf, zad, zan, zah, zai, zax] <;> omega) | decide) only [zal, zat, zb6, za1, zb8, zbh, sT_g, zae, gK_t, q_o, za8, zam, zay, lenF, zbe, zff, ↓reduceIte, q_b, zar, zbk, q_f, q_s, q_l, q_n, Nat.reduceEqDiff, zdm, zej, q9, zhf, zeh, zez, zft, zfg, zfh, zea]
          refine zda (hk1) rfl ?_
          simp -dsimp -implicitDefEqProofs (disch := first | assumption | omega | (simp [maxLen, zab, za3, za4, zaf, zad, zan, zah, zai, zax] <;> omega) | decide) only [zbq, zfn, zaj, sT_g, zae, gK_t, q_o, zfo, ↓reduceIte, q_b, zar, zbk, q_f, q_l, Nat.reduceEqDiff, oD]
          refine hK14 _ _ ?_
          refine zau rfl (fun ht => ?_) (fun ht => ?_)
          · cases ht
          · refine zbb (hK13 _ _ ?_)
            refine zac hp zao hc rfl fun K15 hK15 => ?_
            simp -dsimp -implicitDefEqProofs (disch := first | assumption | omega | (simp [maxLen, zab, za3, za4, zaf, zad, zan, zah, zai, zax] <;> omega) | decide) only [zal, zat, zbh, zae, q_o, za8, ↓reduceIte, q_b, q_f, q_s, q_l, Nat.reduceEqDiff, zak, zes, zfi]
            refine zda (vars_c n sh hsh (by omega)) rfl ?_
            simp -dsimp -implicitDefEqProofs (disch := first | assumption | omega | (simp [maxLen, zab, za3, za4, zaf, zad, zan, zah, zai, zax] <;> omega) | decide) only [zag, zaj, ↓reduceIte, q_b, q_f, iD]
            refine hK15 _ _ ?_
            refine zac hp zao hc rfl fun K16 hK16 => ?_
            simp -dsimp -implicitDefEqProofs (disch := first | assumption | omega | (simp [maxLen, zab, za3, za4, zaf, zad, zan, zah, zai, zax] <;> omega) | decide) only [zal, zat, zbh, zae, q_o, za8, ↓reduceIte, q_b, q_f, q_s, q_l, Nat.reduceEqDiff, zak, zes, zfi]
            refine zda (zos n sh hnb hsh (by omega)) rfl ?_
            simp -dsimp -implicitDefEqProofs (disch := first | assumption | omega | (simp [maxLen, zab, za3, za4, zaf, zad, zan, zah, zai, zax] <;> omega) | decide) only [zag, zaj, ↓reduceIte, q_b, q_f, zc9]
            refine hK16 _ _ ?_
            refine zas fun K17 hK17 => ?_
            have htl := zax n sh
            obtain ⟨V, hVd⟩ : ∃ V, V = zcr n.ins.length sh := ⟨_, rfl⟩
            obtain ⟨P, hP⟩ : ∃ P, P = 2 ^ V := ⟨_, rfl⟩
            have hV14 : V ≤ 14 := by omega
            have hpw : P ≤ 1048576 := by rw [hP]; exact Nat.le_trans (Nat.pow_le_pow_right (by decide) (show V ≤ 20 by omega)) (show 2 ^ 20 ≤ 1048576 by decide)
            have hrow : nth (zjz n sh) kn = (List.range P).map fun j => t.eval (asn V j) := by
              rw [znc hkl, zt5 hsh hB.F hnb.g2 (by omega) hkl (Nat.le_refl _), htd, hP, hVd]
            obtain ⟨tb, htb⟩ : ∃ tb, tb = zjz n sh := ⟨_, rfl⟩
            rw [← hVd] at hO ⊢
            rw [← htb] at htl hrow ⊢
            have qa : ((tb.length : Int) != 2 + (n.ins.length : Int) + n.gates.length) = false := by simp; omega
            refine zac hp zao hc rfl fun K18 hK18 => ?_
            simp -dsimp -implicitDefEqProofs (disch := first | assumption | omega | (simp [maxLen, zab, za3, za4, zaf, zad, zan, zah, zai, zax] <;> omega) | decide) only [zal, zat, zb8, zbh, zae, q_o, za8, lenF, zbe, ↓reduceIte, q_b, q_f, q_s, q_l, Nat.reduceEqDiff, zak, zm6, zes, zfi]
            refine zda (zit n (by omega) (by omega)) rfl ?_
            simp -dsimp -implicitDefEqProofs (disch := first | assumption | omega | (simp [maxLen, zab, za3, za4, zaf, zad, zan, zah, zai, zax] <;> omega) | decide) only [za1, zaj, zae, q_o, zay, zff, ↓reduceIte, q_b, q_f, Nat.reduceEqDiff, iD, qa]
            refine hK18 _ _ ?_
            refine zau rfl (fun ht => ?_) (fun ht => ?_)
            · cases ht
            · refine zbb (hK17 _ _ ?_)
              refine zac hp zao hc rfl fun K19 hK19 => ?_
              simp -dsimp -implicitDefEqProofs (disch := first | assumption | omega | (simp [maxLen, zab, za3, za4, zaf, zad, zan, zah, zai, zax] <;> omega) | decide) only [zal, zag, zat, zdo, zaj, zae, q_o, za8, ixO, za2, ↓reduceIte, q_b, ifp, q_f, Int.toNat_natCast, q_n, Nat.reduceEqDiff, zcg, za9, zcg, zm6, ztn, zto]
              obtain ⟨row, hro⟩ : ∃ row, row = nth tb kn := ⟨_, rfl⟩
              have hrl : row.length = P := by rw [hro, hrow]; simp
              have hre : ∀ j, j < P → nth row j = t.eval (asn V j) := fun j hj => by rw [hro, hrow, zdj hj]
              rw [← hro]
              clear hro hrow htb htl
              replace hshd := hshd.symm
              replace hkn := hkn.symm
              replace htd := htd.symm
              replace hVd := hVd.symm
              replace hP := hP.symm
              refine hK19 _ _ ?_
              refine zac hp zao hc rfl fun K20 hK20 => ?_
              simp -dsimp -implicitDefEqProofs (disch := first | assumption | omega | (simp [maxLen, zab, za3, za4, zaf, zad, zan, zah, zai, zax] <;> omega) | decide) only [zag, zdw, zbd, zaj, zae, q_o, layF, ↓reduceIte, q_b, ifp, q_f, q_s, q_l, List.replicate_zero, zbv, q_a, q_n, zbd, zgp]
              refine hK20 _ _ ?_
              refine zas fun K21 hK21 => ?_
              refine zac hp zao hc rfl fun K22 hK22 => ?_
              simp -dsimp -implicitDefEqProofs (disch := first | assumption | omega | (simp [maxLen, zab, za3, za4, zaf, zad, zan, zah, zai, zax] <;> omega) | decide) only [zag, zaj, q_f]
              refine hK22 _ _ ?_
              refine zbg ?_
              refine zby hp (fun τ' H' mm => ∃ (j : Nat), (j ≤ V) ∧ mm = V - j ∧ H' = [.cells (avs ((zmo t j).map iD))] ∧ τ' = frL [(7, .d (oD true)), (11, .d (.fp (bddC (erow us) [num us t] ++ [iD 0]) 0)), (12, .d (iD V)), (14, .d (za9 row)), (15, .os 1 0 0 (zmo t j).length), (16, .d (iD j))]) (V) ?_ ⟨0, Nat.zero_le _, rfl, rfl, rfl⟩ ?_
              · refine Rt.end (zaa (zaa (zaa (zaa (zaa (zaa (zaq _) rfl) rfl) rfl) rfl) rfl) rfl) ?_
                first | rfl | (simp only [zbj, za9, zbp, zbt, zbm, gcH, zb1, zcb, zcc, gc_m, fz_m, zaz, gcVs, gcV, zcy, fzH, zc0, zb9, zcd, zbl, Nat.reduceAdd, fzVs, fzV, posN, zav, zap, List.map_cons, List.map_nil, List.getD_cons_zero, List.getD_cons_succ, ↓reduceIte, Nat.reduceEqDiff, Option.map_some, List.set_cons_zero, List.set_cons_succ, zba, zak, Nat.mul_one, List.length_map, List.cons_append, List.nil_append, rawC, u8D, netD, netC, zbw, zbx, shD, bltD, bddC, zc9]; first | done | rfl)
              rintro τ' H' mm ⟨j, hj, rfl, rfl, rfl⟩
              refine zas fun K23 hK23 => ?_
              refine zac hp zao hc rfl fun K24 hK24 => ?_
              simp -dsimp -implicitDefEqProofs (disch := first | assumption | omega | (simp [maxLen, zab, za3, za4, zaf, zad, zan, zah, zai, zax] <;> omega) | decide) only [zal, za1, zaj, zae, q_o, zay, zcz, ↓reduceIte, q_b, q_f, q_s, q_l, q_n, Nat.reduceEqDiff, iD, oD, za9, bddC]
              refine hK24 _ _ ?_
              refine zau rfl (fun ht => ?_) (fun ht => ?_)
              · have hjl : j < V := by simp at ht; omega
                have hwl := zt6 t j
                obtain ⟨m, hm⟩ : ∃ m, m = V - 1 - j := ⟨_, rfl⟩
                have hmi : (V : Int) - 1 - j = (m : Int) := by omega
                have hpm : 2 ^ m < P := by rw [← hP, hm]; exact Nat.pow_lt_pow_right (by decide) (by omega)
                replace hm := hm.symm
                have hu : IntKind.u64.wrap (m : Int) = m := zrt (by omega) (by omega)
                have hw : IntKind.i64.wrap (1 * 2 ^ min m 64) = ((2 ^ m : Nat) : Int) := zku (a := 1) (by omega) (by omega) (by omega)
                have hw' : IntKind.i64.wrap (2 ^ min m 64) = ((2 ^ m : Nat) : Int) := by rw [← hw, Int.one_mul]
                refine zbb (hK23 _ _ ?_)
                refine zas fun K25 hK25 => ?_
                refine zbg ?_
                refine zac hp zao hc rfl fun K26 hK26 => ?_
                simp -dsimp -implicitDefEqProofs (disch := first | assumption | omega | (simp [maxLen, zab, za3, za4, zaf, zad, zan, zah, zai, zax] <;> omega) | decide) only [zag, zaj, q_f]
                refine hK26 _ _ ?_
                refine zas fun K27 hK27 => ?_
                refine zac hp zao hc rfl fun K28 hK28 => ?_
                simp -dsimp -implicitDefEqProofs (disch := first | assumption | omega | (simp [maxLen, zab, za3, za4, zaf, zad, zan, zah, zai, zax] <;> omega) | decide) only [zag, zaj, q_f]
                refine hK28 _ _ ?_
                refine zbg ?_
                refine zby hp (fun τ' H' mm => ∃ (i : Nat), (i ≤ P) ∧ mm = P - i ∧ H' = [.cells (avs ((zmo t j).map iD))] ∧ τ' = frL [(7, .d (oD true)), (11, .d (.fp (bddC (erow us) [num us t] ++ [iD 0]) 0)), (12, .d (iD V)), (14, .d (za9 row)), (15, .os 1 0 0 (zmo t j).length), (16, .d (iD j)), (17, .d (oD (tells row (2 ^ m) i))), (18, .d (iD i))]) (P) ?_ ⟨0, Nat.zero_le _, rfl, rfl, rfl⟩ ?_
                · refine Rt.end (zaa (zaa (zaa (zaa (zaa (zaa (zaa (zaa (zaq _) rfl) rfl) rfl) rfl) rfl) rfl) rfl) rfl) ?_
                  first | rfl | (simp only [zbj, za9, zbp, zbt, zbm, gcH, zb1, zcb, zcc, gc_m, fz_m, zaz, gcVs, gcV, zcy, fzH, zc0, zb9, zcd, zbl, Nat.reduceAdd, fzVs, fzV, posN, zav, zap, List.map_cons, List.map_nil, List.getD_cons_zero, List.getD_cons_succ, ↓reduceIte, Nat.reduceEqDiff, Option.map_some, List.set_cons_zero, List.set_cons_succ, zba, zak, Nat.mul_one, List.length_map, List.cons_append, List.nil_append, rawC, u8D, netD, netC, zbw, zbx, shD, bltD, bddC, zc9]; first | done | rfl)
                rintro τ' H' mm ⟨i, hi, rfl, rfl, rfl⟩
                refine zas fun K29 hK29 => ?_
                refine zac hp zao hc rfl fun K30 hK30 => ?_
                simp -dsimp -implicitDefEqProofs (disch := first | assumption | omega | (simp [maxLen, zab, za3, za4, zaf, zad, zan, zah, zai, zax] <;> omega) | decide) only [zal, za1, zb8, zaj, zae, q_o, zay, lenF, zbe, zcz, ↓reduceIte, q_b, q_f, q_s, q_l, q_n, Nat.reduceEqDiff, iD, oD, za9, bddC, zhy]
                refine hK30 _ _ ?_
                refine zau rfl (fun ht => ?_) (fun ht => ?_)
                · have hlt : i < P := by simp at ht; omega
                  have hxl : i ^^^ 2 ^ m < P := by have := xor_lt (n := V) (by rw [hP]; exact hlt) hjl; rw [hm, hP] at this; exact this
                  have hxx : bitV .xor .i64 (i : Int) ((2 ^ m : Nat) : Int) = ((i ^^^ 2 ^ m : Nat) : Int) := xor_nat (by omega) (by omega)
                  have hts := tells_s row (2 ^ m) i
                  refine zbb (hK29 _ _ ?_)
                  refine zas fun K31 hK31 => ?_
                  refine zbg ?_
                  refine zv7 zao hc mixed rfl (q := 0) (by kernel_rfl) (by kernel_rfl) fun K32 hK32 => ?_
                  rcases tf (tells row (2 ^ m) i) with q | q
                  · have hq : tells row (2 ^ m) (i + 1) = true := by rw [hts, q]; rfl
                    rw [q]
                    simp -dsimp -implicitDefEqProofs (disch := first | assumption | omega | (simp [maxLen, zab, za3, za4, zaf, zad, zan, zah, zai, zax] <;> omega) | decide) only [zco, zdh, zed, zc4, zae, gK_f, q_o, ↓reduceIte, q_b, zar, zbk, q_f, q_l, List.append_nil, List.replicate_zero, q_n, Nat.reduceEqDiff, killAll, Nat.reduceAdd, zhd, zij, zgd, zlz, zh7, zo4]
                    refine hK32 _ _ (hK31 _ _ ?_)
                    refine zcw hp zao hc rfl fun K33 hK33 => ?_
                    simp -dsimp -implicitDefEqProofs (disch := first | assumption | omega | (simp [maxLen, zab, za3, za4, zaf, zad, zan, zah, zai, zax] <;> omega) | decide) only [zal, zag, za1, zaj, zae, q_o, zay, zcu, ↓reduceIte, q_b, q_f, Nat.reduceEqDiff]
                    refine hK33 _ _ ⟨_, _, _, ?_, ⟨i + 1, by omega, rfl, rfl, rfl⟩, ?_⟩
                    · first | omega | (simp only [List.length_cons]; omega) | (dsimp only; omega)
                    · refine Rt.end (zaa (zaa (zaa (zaa (zaa (zaa (zaa (zaa (zaq _) rfl) (by first | rfl | (simp [frL, oD]; done) | simp [frL, oD, *])) rfl) rfl) rfl) rfl) rfl) rfl) ?_
                      first | rfl | (simp only [zbj, za9, zbp, zbt, zbm, gcH, zb1, zcb, zcc, gc_m, fz_m, zaz, gcVs, gcV, zcy, fzH, zc0, zb9, zcd, zbl, Nat.reduceAdd, fzVs, fzV, posN, zav, zap, List.map_cons, List.map_nil, List.getD_cons_zero, List.getD_cons_succ, ↓reduceIte, Nat.reduceEqDiff, Option.map_some, List.set_cons_zero, List.set_cons_succ, zba, zak, Nat.mul_one, List.length_map, List.cons_append, List.nil_append, rawC, u8D, netD, netC, zbw, zbx, shD, bltD, bddC, zc9]; first | done | rfl)
                  · have hq : tells row (2 ^ m) (i + 1) = (nth row i != nth row (i ^^^ 2 ^ m)) := by rw [hts, q]; rfl
                    rw [q]
                    simp -dsimp -implicitDefEqProofs (disch := first | assumption | omega | (simp [maxLen, zab, za3, za4, zaf, zad, zan, zah, zai, zax] <;> omega) | decide) only [zco, zdh, zed, zcq, ze2, zdt, zi7, zc4, zae, gK_t, q_o, za8, ixO, za2, zay, zgx, zg7, zo8, zp5, v_xor, ↓reduceIte, q_b, ifp, zar, zbk, q_f, q_l, List.append_nil, List.replicate_zero, Int.toNat_natCast, q_n, Nat.reduceEqDiff, killAll, zcg, oD, Nat.reduceAdd, zhd, hmi, hu, hw, hxx, zcg, zhy, sz_4, ag_4, ik_3, ik_78, bt_4]
                    refine hK32 _ _ (hK31 _ _ ?_)
                    refine zcw hp zao hc rfl fun K34 hK34 => ?_
                    simp -dsimp -implicitDefEqProofs (disch := first | assumption | omega | (simp [maxLen, zab, za3, za4, zaf, zad, zan, zah, zai, zax] <;> omega) | decide) only [zal, zag, za1, zaj, zae, q_o, zay, zcu, ↓reduceIte, q_b, q_f, Nat.reduceEqDiff]
                    refine hK34 _ _ ⟨_, _, _, ?_, ⟨i + 1, by omega, rfl, rfl, rfl⟩, ?_⟩
                    · first | omega | (simp only [List.length_cons]; omega) | (dsimp only; omega)
                    · refine Rt.end (zaa (zaa (zaa (zaa (zaa (zaa (zaa (zaa (zaq _) rfl) (by first | rfl | (simp [frL, oD]; done) | simp [frL, oD, *])) rfl) rfl) rfl) rfl) rfl) rfl) ?_
                      first | rfl | (simp only [zbj, za9, zbp, zbt, zbm, gcH, zb1, zcb, zcc, gc_m, fz_m, zaz, gcVs, gcV, zcy, fzH, zc0, zb9, zcd, zbl, Nat.reduceAdd, fzVs, fzV, posN, zav, zap, List.map_cons, List.map_nil, List.getD_cons_zero, List.getD_cons_succ, ↓reduceIte, Nat.reduceEqDiff, Option.map_some, List.set_cons_zero, List.set_cons_succ, zba, zak, Nat.mul_one, List.length_map, List.cons_append, List.nil_append, rawC, u8D, netD, netC, zbw, zbx, shD, bltD, bddC, zc9]; first | done | rfl)
                · have hie : i = P := by simp at ht; omega
                  subst hie
                  have htv : tells row (2 ^ m) i = decide (j ∈ t.vs) := by rw [← hm]; exact tells_vs hO.ok hjl hP.symm hre
                  have hws := wantL_s t j
                  refine zcl (hK27 _ _ ?_)
                  refine zac hp zao hc rfl fun K35 hK35 => ?_
                  simp -dsimp -implicitDefEqProofs (disch := first | assumption | omega | (simp [maxLen, zab, za3, za4, zaf, zad, zan, zah, zai, zax] <;> omega) | decide) only [zal, zaj, ↓reduceIte, q_b, q_f, Nat.reduceEqDiff]
                  refine hK35 _ _ ?_
                  refine zau rfl (fun ht => ?_) (fun ht => ?_)
                  · have hin : j ∈ t.vs := by rw [htv] at ht; simpa using ht
                    rw [if_pos hin] at hws
                    refine zcw hp zao hc rfl fun K36 hK36 => ?_
                    simp -dsimp -implicitDefEqProofs (disch := first | assumption | omega | (simp [maxLen, zab, za3, za4, zaf, zad, zan, zah, zai, zax] <;> omega) | decide) only [zal, zag, zdw, zd6, zbd, zaj, zae, q_o, layF, srcF, ↓reduceIte, q_b, ifp, ifn, q_f, q_s, q_l, List.append_nil, List.replicate_zero, List.replicate_succ, zbv, q_a, zbn, q_n, Nat.reduceEqDiff, zab, zcv, zak, List.drop_zero, Nat.reduceAdd, zbd, List.length_map, zgp]
                    refine hK36 _ _ (hK25 _ _ ?_)
                    refine zcw hp zao hc rfl fun K37 hK37 => ?_
                    simp -dsimp -implicitDefEqProofs (disch := first | assumption | omega | (simp [maxLen, zab, za3, za4, zaf, zad, zan, zah, zai, zax] <;> omega) | decide) only [zal, zag, za1, zaj, zae, q_o, zay, zcu, ↓reduceIte, q_b, q_f, Nat.reduceEqDiff]
                    refine hK37 _ _ ⟨_, _, _, ?_, ⟨j + 1, by omega, rfl, rfl, rfl⟩, ?_⟩
                    · first | omega | (simp only [List.length_cons]; omega) | (dsimp only; omega)
                    · refine Rt.trans (Rt.gc (keep := [2]) (by decide) (by decide) (by simp [])) ?_
                      refine Rt.end (zaa (zaa (zaa (zaa (zaa (zaa (zaq _) rfl) (by first | rfl | (simp [frL, gcV, posN]; done) | simp [frL, gcV, posN, *])) rfl) rfl) rfl) rfl) ?_
                      simp only [gcH, zb1, zaz, List.map_cons, List.map_nil, List.getD_cons_zero, List.getD_cons_succ]; rw [hws]; simp [iD]
                  · have hin : j ∉ t.vs := by rw [htv] at ht; simpa using ht
                    rw [if_neg hin] at hws
                    refine zbb (hK25 _ _ ?_)
                    refine zcw hp zao hc rfl fun K38 hK38 => ?_
                    simp -dsimp -implicitDefEqProofs (disch := first | assumption | omega | (simp [maxLen, zab, za3, za4, zaf, zad, zan, zah, zai, zax] <;> omega) | decide) only [zal, zag, za1, zaj, zae, q_o, zay, zcu, ↓reduceIte, q_b, q_f, Nat.reduceEqDiff]
                    refine hK38 _ _ ⟨_, _, _, ?_, ⟨j + 1, by omega, rfl, rfl, rfl⟩, ?_⟩
                    · first | omega | (simp only [List.length_cons]; omega) | (dsimp only; omega)
                    · refine Rt.end (zaa (zaa (zaa (zaa (zaa (zaa (zaq _) rfl) (by first | rfl | (simp [frL]; done) | simp [frL, *])) rfl) rfl) rfl) rfl) ?_
                      rw [hws]
              · have hje : j = V := by simp at ht; omega
                subst hje
                have hsup : supB us (num us t : Nat) = zmo t j := by
                  have hlt := zer hO.hin
                  unfold supB zhn
                  rw [hO.tree, decide_eq_true (by omega), decide_eq_true (by omega)]
                  exact sup_range hO.ok (by omega)
                have hsc := zpq _ us [num us t] hO.row (by omega) (by unfold bigB; have := hO.len; omega) ((num us t : Nat) : Int)
                rw [hsup] at hsc
                have hwl := zt6 t j
                refine zcl (hK21 _ _ ?_)
                refine zcx hp (τ' := frL [(7, .d (oD true)), (11, .d (.fp (bddC (erow us) [num us t] ++ [iD 0]) 0)), (15, .d (zbj (zmo t j)))]) (H' := []) ?_ ?_
                · refine Rt.trans (Rt.fz (id := 0) rfl) ?_
                  refine Rt.trans (Rt.slot 15 (fzV_os (zak (by simp [eq_self, List.length_map])))) ?_
                  refine Rt.trans (Rt.gc (keep := []) (by decide) (by decide) (by simp [fzH])) ?_
                  refine Rt.end (zaa (zaa (zaa (zaq _) rfl) rfl) rfl) ?_
                  first | rfl | (simp only [zbj, za9, zbp, zbt, zbm, gcH, zb1, zcb, zcc, gc_m, fz_m, zaz, gcVs, gcV, zcy, fzH, zc0, zb9, zcd, zbl, Nat.reduceAdd, fzVs, fzV, posN, zav, zap, List.map_cons, List.map_nil, List.getD_cons_zero, List.getD_cons_succ, ↓reduceIte, Nat.reduceEqDiff, Option.map_some, List.set_cons_zero, List.set_cons_succ, zba, zak, Nat.mul_one, List.length_map, List.cons_append, List.nil_append, rawC, u8D, netD, netC, zbw, zbx, shD, bltD, bddC, zc9]; first | done | rfl)
                refine zcs zao hc mixed rfl (q := 0) (by kernel_rfl) (by kernel_rfl) fun K39 hK39 => ?_
                simp -dsimp -implicitDefEqProofs (disch := first | assumption | omega | (simp [maxLen, zab, za3, za4, zaf, zad, zan, zah, zai, zax] <;> omega) | decide) only [zcq, zem, ze2, zd5, zae, q_o, za8, zam, ixO, za2, ↓reduceIte, q_b, ifp, q_f, q_s, q_l, List.append_nil, List.replicate_zero, q_n, Nat.reduceEqDiff, zdm, zej, iD, oD, zbj, Nat.reduceAdd, Int.toNat_zero, bddC, natD, zhf, zez, zft, zeh, zfg, zfh, zea, sz_3, ag_3]
                refine zda (hsc) rfl ?_
                simp -dsimp -implicitDefEqProofs (disch := first | assumption | omega | (simp [maxLen, zab, za3, za4, zaf, zad, zan, zah, zai, zax] <;> omega) | decide) only [zco, zd5, ↓reduceIte, q_b, q_f, q_s, Nat.reduceEqDiff, zbj, Nat.reduceAdd]
                refine zda (ints_c (zmo t j) (zmo t j) (by unfold maxLen; omega)) rfl ?_
                simp -dsimp -implicitDefEqProofs (disch := first | assumption | omega | (simp [maxLen, zab, za3, za4, zaf, zad, zan, zah, zai, zax] <;> omega) | decide) only [zco, zdh, zed, zc4, zae, gK_t, q_o, ↓reduceIte, q_b, zar, zck, q_f, q_l, Nat.reduceEqDiff, killAll, oD, Nat.reduceAdd, zhd, decide_true]
                refine hK39 _ _ ?_
                refine zbc ?_
                show za7 _ _ = _
                simp (disch := first | assumption | omega | (simp [maxLen, zab, za3, za4, zaf, zad, zan, zah, zai, zax] <;> omega) | decide) only [za7, retV, zbr, D.fix, zbi, ↓reduceIte, Option.map_some, List.length_nil, oD]
end Go.Proofs.Ytgfnpfchdlcoeaa
