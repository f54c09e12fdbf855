/- The theorem of counting. -/
import Derived.Test.YtgfnpfchdlcoeaaQ
import Derived.Test.YtgfnpfchdlcoeaaGez
set_option linter.unusedVariables false
set_option linter.unusedSimpArgs false
namespace Go.Proofs.Ytgfnpfchdlcoeaa
open Go Go.RowKit
/-- The net with one more gate: a node's complement. -/
def negN (n : Net) (k : Nat) : Net := { n with gates := n.gates ++ [notG k] }
theorem zjm (n : Net) (k : Nat) : (negN n k).gates.length = n.gates.length + 1 := by simp [negN]
theorem negN_ok {n : Net} {k : Nat} (hg : GatesOk (2 + n.ins.length) n.gates) (hk : k < 2 + n.ins.length + n.gates.length) : GatesOk (2 + n.ins.length) (negN n k).gates := fun q hq => by
  rw [zjm] at hq
  show GateOk _ (nth (n.gates ++ [notG k]) q)
  by_cases h : q < n.gates.length
  · rw [zdu h]; exact hg q h
  · have : q = n.gates.length := by omega
    subst this
    rw [ze7]
    exact not_ok (by omega) (by omega)
theorem negN_ev {n : Net} {sh : Sh} {k q j : Nat} (hq : q < 2 + n.ins.length + n.gates.length) : nth (evA (negN n k) sh j) q = nth (evA n sh j) q := by
  have e : evA (negN n k) sh j = evA n sh j ++ [opN (zjj n.ins.length sh (asgL (zcr n.ins.length sh) j)) (evA n sh j) (notG k)] := by
    show zt2 (n.gates ++ [notG k]) _ _ = _
    unfold zt2 zlo
    rw [List.foldl_append]; rfl
  rw [e, zdu (by rw [evA_len]; exact hq)]
theorem negN_row {n : Net} {sh : Sh} {k q N : Nat} (hq : q < 2 + n.ins.length + n.gates.length) : rowT (negN n k) sh q N = rowT n sh q N := List.map_congr_left fun j _ => negN_ev hq
theorem negN_not {n : Net} {sh : Sh} {k V : Nat} {fs : List T} (hk : k < 2 + n.ins.length + n.gates.length) (hF : FsP V n.ins.length sh (negN n k).gates (negN n k).gates.length fs) (a : Nat → Bool) : (nth fs (2 + n.ins.length + n.gates.length)).eval a = !(nth fs k).eval a := by
  have hl := hF.len
  have hg := zjm n k
  rw [hF.fg n.gates.length (by omega) a]
  have e : nth (negN n k).gates n.gates.length = notG k := ze7
  rw [e]
  show (!(nth (fs.take (2 + n.ins.length + n.gates.length)) ((k : Int)).toNat).eval a) = _
  rw [show ((k : Int)).toNat = k by omega, zjk ⟨hk, by omega⟩]
theorem two_no {n : Net} {k : Nat} (hk : k < 2 + n.ins.length + n.gates.length) : [(k : Int), 2 + (n.ins.length : Int) + (n.gates.length : Int)].any (unkB (2 + (negN n k).ins.length + (negN n k).gates.length)) = false := by
  rw [zjm]
  show List.any _ (unkB (2 + (n.ins.length : Int) + ((n.gates.length + 1 : Nat) : Int))) = false
  simp [unkB]; omega
theorem two_of {n : Net} {sh : Sh} {k : Nat} (hk : k < 2 + n.ins.length + n.gates.length) {fs us : List T} {rs : List Nat} (h : Blt (zcr n.ins.length sh) (negN n k) sh [(k : Int), 2 + (n.ins.length : Int) + (n.gates.length : Int)] fs us rs) :
    One (zcr n.ins.length sh) us (nth fs k) ∧ One (zcr n.ins.length sh) us (nth fs (2 + n.ins.length + n.gates.length)) ∧ rs = [num us (nth fs k), num us (nth fs (2 + n.ins.length + n.gates.length))] := by
  have hl := h.F.len
  have hg := zjm n k
  have hl' : fs.length = 2 + n.ins.length + (n.gates.length + 1) := by rw [← hg]; exact hl
  have e : (2 + (n.ins.length : Int) + (n.gates.length : Int)).toNat = 2 + n.ins.length + n.gates.length := by omega
  have hin := h.hin (nth fs k) (by simp [ze1])
  have hin2 := h.hin (nth fs (2 + n.ins.length + n.gates.length)) (by simp [ze1, e])
  exact ⟨⟨h.row, h.len, h.F.ok _ (zdi (by omega)), hin⟩, ⟨h.row, h.len, h.F.ok _ (zdi (by omega)), hin2⟩, by rw [h.rs]; simp [ze1, e]⟩
theorem One.count {V W : Nat} {us : List T} {t : T} (h : One V us t) (hV : V ≤ W) (hW : W ≤ 60) : cntA us (num us t : Nat) (W : Int) = (cntT W t 0 : Nat) ∧ askE us (num us t : Nat) (W : Int) = 0 := by
  have ha := h.ask hV hW
  unfold cntA askE
  rw [ha, if_pos rfl, if_pos rfl, h.tree]
  exact ⟨by rw [show (W : Int).toNat = W by omega], rfl⟩
set_option maxRecDepth 100000 in
set_option linter.unusedVariables false in
set_option maxHeartbeats 4000000 in
theorem counts_law (x : RawN) (hx : RawOk x) (b0 b1 b2 : Nat) (h0 : b0 < 256) (h1 : b1 < 256) (h2 : b2 < 256) (k : Nat) (hk : k < 256) : zce Try.prog 7 [.agg (rawC x), .agg [u8D b0, u8D b1, u8D b2], u8D k] (.d (oD true)) := by
  refine zb7 (fn := Try.f7) (by kernel_rfl) Try.func7 rfl (Nat.le_of_ble_eq_true rfl) fun c hc hp => ?_
  refine zch (τ' := frL [(0, .d (.agg (rawC x))), (1, .d (.agg [u8D b0, u8D b1, u8D b2])), (2, .d (u8D k))]) (zaa (zaa (zaa (zaq _) rfl) rfl) rfl) ?_
  refine zac hp zao hc rfl fun K1 hK1 => ?_
  simp -dsimp -implicitDefEqProofs (disch := first | assumption | omega | (simp [maxLen, zab, za3, za4, zaf, zad, zan, zah, zai, zax] <;> omega) | decide) only [zag, zdy, zbd, zaj, zae, q_o, layF, ↓reduceIte, q_b, q_f, q_s, q_l, zca, D.one, Value.oneCell', q_n, Nat.reduceEqDiff, bD, zbp, zbd, rawC, u8D]
  refine hK1 _ _ ?_
  refine zac hp zao hc rfl fun K2 hK2 => ?_
  simp -dsimp -implicitDefEqProofs (disch := first | assumption | omega | (simp [maxLen, zab, za3, za4, zaf, zad, zan, zah, zai, zax] <;> omega) | decide) only [zbh, q_f, q_s, q_l, q_n, Nat.reduceAdd]
  refine zda (zkv) rfl ?_
  simp -dsimp -implicitDefEqProofs (disch := first | assumption | omega | (simp [maxLen, zab, za3, za4, zaf, zad, zan, zah, zai, zax] <;> omega) | decide) only [zag, zaj, ↓reduceIte, q_b, q_f, oD]
  refine hK2 _ _ ?_
  refine zas fun K3 hK3 => ?_
  refine zac hp zao hc rfl fun K4 hK4 => ?_
  rcases (show fewB x = false ∨ fewB x = true by cases fewB x <;> simp) with q | q
  · have hf := zt4 x
    rw [q] at hf
    simp -dsimp -implicitDefEqProofs (disch := first | assumption | omega | (simp [maxLen, zab, za3, za4, zaf, zad, zan, zah, zai, zax] <;> omega) | decide) only [zal, zat, zfn, zbh, sT_g, zae, gK_t, q_o, za8, zfo, ↓reduceIte, q_b, ifp, zar, zbk, q_f, q_s, q_l, q_n, Nat.reduceEqDiff, zak, Nat.reduceAdd, zkx, zky]
    refine zda (hf) rfl ?_
    simp -dsimp -implicitDefEqProofs (disch := first | assumption | omega | (simp [maxLen, zab, za3, za4, zaf, zad, zan, zah, zai, zax] <;> omega) | decide) only [zbq, zfn, zaj, sT_g, zae, gK_t, q_o, zfo, ↓reduceIte, q_b, zar, zbk, q_f, q_l, Nat.reduceEqDiff, oD]
    refine hK4 _ _ ?_
    refine zau rfl (fun ht => ?_) (fun ht => ?_)
    · refine zac hp zao hc rfl fun K5 hK5 => ?_
      simp -dsimp -implicitDefEqProofs (disch := first | assumption | omega | (simp [maxLen, zab, za3, za4, zaf, zad, zan, zah, zai, zax] <;> omega) | decide) only [zal, zag, zaj, ↓reduceIte, q_b, q_f, Nat.reduceEqDiff]
      refine hK5 _ _ ?_
      refine zbc ?_
      show za7 _ _ = _
      simp (disch := first | assumption | omega | (simp [maxLen, zab, za3, za4, zaf, zad, zan, zah, zai, zax] <;> omega) | decide) only [za7, retV, zbr, Nat.reduceAdd, Nat.zero_add, D.fix, zbi, ↓reduceIte, Option.map_some, List.length_cons, List.length_nil, oD]
    · cases ht
  · have hf := zt4 x
    rw [q] at hf
    simp -dsimp -implicitDefEqProofs (disch := first | assumption | omega | (simp [maxLen, zab, za3, za4, zaf, zad, zan, zah, zai, zax] <;> omega) | decide) only [zal, zat, zfn, zbh, sT_g, zae, gK_t, q_o, za8, zfo, ↓reduceIte, q_b, ifp, zar, zbk, q_f, q_s, q_l, q_n, Nat.reduceEqDiff, zak, Nat.reduceAdd, zkx, zky]
    refine zda (hf) rfl ?_
    simp -dsimp -implicitDefEqProofs (disch := first | assumption | omega | (simp [maxLen, zab, za3, za4, zaf, zad, zan, zah, zai, zax] <;> omega) | decide) only [zbq, zfn, zaj, sT_g, zae, gK_t, q_o, zfo, ↓reduceIte, q_b, zar, zbk, q_f, q_l, Nat.reduceEqDiff, oD]
    refine hK4 _ _ ?_
    refine zau rfl (fun ht => ?_) (fun ht => ?_)
    · cases ht
    · refine zbb (hK3 _ _ ?_)
      refine zac hp zao hc rfl fun K6 hK6 => ?_
      simp -dsimp -implicitDefEqProofs (disch := first | assumption | omega | (simp [maxLen, zab, za3, za4, zaf, zad, zan, zah, zai, zax] <;> omega) | decide) only [zat, zbh, zae, q_o, za8, ↓reduceIte, q_b, ifp, q_f, q_s, q_l, q_n, Nat.reduceEqDiff, zak, Nat.reduceAdd, zkx, zky]
      refine znh (made_c x hx) rfl fun r hr => ?_
      obtain ⟨n, hn, rfl⟩ := hr
      simp -dsimp -implicitDefEqProofs (disch := first | assumption | omega | (simp [maxLen, zab, za3, za4, zaf, zad, zan, zah, zai, zax] <;> omega) | decide) only [zcm, zbu, zbd, zaj, zae, q_o, layF, zb4, ↓reduceIte, q_b, ifp, q_f, q_s, q_l, zca, q_a, D.one, q_n, Nat.reduceEqDiff, zdk, zav, zap, zbj, Nat.reduceAdd, zbd, netD, netC, zbw, zbx, zes, ztp]
      refine hK6 _ _ ?_
      refine zac hp zao hc rfl fun K7 hK7 => ?_
      simp -dsimp -implicitDefEqProofs (disch := first | assumption | omega | (simp [maxLen, zab, za3, za4, zaf, zad, zan, zah, zai, zax] <;> omega) | decide) only [zat, zbh, zae, q_o, za8, ↓reduceIte, q_b, ifp, q_f, q_s, q_l, q_n, Nat.reduceEqDiff, zak, Nat.reduceAdd, sz_27, ag_27]
      refine zda (zsi b0 b1 b2 h0 h1 h2) rfl ?_
      simp -dsimp -implicitDefEqProofs (disch := first | assumption | omega | (simp [maxLen, zab, za3, za4, zaf, zad, zan, zah, zai, zax] <;> omega) | decide) only [zag, zaj, ↓reduceIte, q_b, q_f, shD]
      obtain ⟨sh, hshd⟩ : ∃ sh, sh = shpL 5 [b0, b1, b2] := ⟨_, rfl⟩
      have hsh : ShOk sh := by rw [hshd]; exact shp_ok _ rfl _
      have hsv : zcr n.ins.length sh ≤ n.ins.length + 5 := by rw [hshd]; exact zoq _ _
      rw [← hshd]
      have hnb := hn.b
      have hi9 := hnb.i1
      have hg60 := hn.g1
      have hg200 := hnb.g1
      obtain ⟨kn, hkn⟩ : ∃ kn, kn = k % (2 + n.ins.length + n.gates.length) := ⟨_, rfl⟩
      have hkl : kn < 2 + n.ins.length + n.gates.length := by rw [hkn]; exact Nat.mod_lt _ (by omega)
      have hkm : (k : Int) % (2 + (n.ins.length : Int) + (n.gates.length : Int)) = (kn : Int) := by rw [hkn]; push_cast; rfl
      have hkw : IntKind.i64.wrap (k : Int) = k := zh2 (by omega) (by omega)
      have hno := two_no hkl
      have hBI : BIn (zcr n.ins.length sh) (negN n kn) sh [(kn : Int), 2 + (n.ins.length : Int) + (n.gates.length : Int)] := bin_of (n := negN n kn) hnb.i1 (by rw [zjm]; omega) hsh hsv (negN_ok hnb.g2 hkl) hno (by simp)
      obtain ⟨m, hm⟩ : ∃ m, m = negN n kn := ⟨_, rfl⟩
      have hmg : m.gates.length = n.gates.length + 1 := by rw [hm, zjm]
      rw [← hm] at hno hBI
      have hta : zd0 (m.gates.flatMap zf3) 0 (m.gates.length * 5) = some (m.gates.flatMap zf3) := zak (by rw [zaf])
      refine hK7 _ _ ?_
      refine zcx hp (τ' := frL [(2, .d (u8D k)), (7, .d (oD true)), (8, .d (.fp (netC n) 0)), (9, .d (shD sh))]) (H' := []) ?_ ?_
      · refine Rt.trans (Rt.fz (id := 2) (l := netC n) rfl) ?_
        refine Rt.trans (Rt.gc (keep := []) (by decide) (by decide) (by simp [fzH])) ?_
        refine Rt.end (zaa (zaa (zaa (zaa (zaq _) rfl) rfl) rfl) rfl) ?_
        first | rfl | (simp only [zbj, za9, zbp, zbt, zbm, gcH, zb1, zcb, zcc, gc_m, fz_m, zaz, gcVs, gcV, zcy, fzH, zc0, zb9, zcd, zbl, Nat.reduceAdd, fzVs, fzV, posN, zav, zap, List.map_cons, List.map_nil, List.getD_cons_zero, List.getD_cons_succ, ↓reduceIte, Nat.reduceEqDiff, Option.map_some, List.set_cons_zero, List.set_cons_succ, zba, zak, Nat.mul_one, List.length_map, List.cons_append, List.nil_append, rawC, u8D, netD, netC, zbw, zbx, shD, bltD, bddC, zc9]; first | done | rfl)
      refine zac hp zao hc rfl fun K8 hK8 => ?_
      simp -dsimp -implicitDefEqProofs (disch := first | assumption | omega | (simp [maxLen, zab, za3, za4, zaf, zad, zan, zah, zai, zax] <;> omega) | decide) only [zal, zat, ze8, zbh, zae, q_o, za8, zgx, ↓reduceIte, q_b, q_f, q_s, q_l, Nat.reduceEqDiff, zak, bD, oD, zbj, u8D, netC, zbw, zbx, shD, hkw, ik_5, ik_3, zes, zfi]
      refine zda (zit n (by omega) (by omega)) rfl ?_
      simp -dsimp -implicitDefEqProofs (disch := first | assumption | omega | (simp [maxLen, zab, za3, za4, zaf, zad, zan, zah, zai, zax] <;> omega) | decide) only [zag, za1, zaj, zae, q_o, zay, zix, ↓reduceIte, q_b, q_f, Nat.reduceEqDiff, iD, hkm]
      refine hK8 _ _ ?_
      refine zac hp zao hc rfl fun K9 hK9 => ?_
      simp -dsimp -implicitDefEqProofs (disch := first | assumption | omega | (simp [maxLen, zab, za3, za4, zaf, zad, zan, zah, zai, zax] <;> omega) | decide) only [zat, zcm, zbu, zbd, zaj, zae, q_o, za8, layF, zb4, ↓reduceIte, q_b, ifp, q_f, q_s, q_l, zca, q_a, D.one, q_n, Nat.reduceEqDiff, zdk, zav, zap, zak, Nat.reduceAdd, zbd, zes, zfi, ztp]
      refine hK9 _ _ ?_
      refine zac hp zao hc rfl fun K10 hK10 => ?_
      simp -dsimp -implicitDefEqProofs (disch := first | assumption | omega | (simp only [maxLen, List.length_replicate, eq_self, true_and, and_true, and_self, zab, List.length_map, List.length_append, List.length_cons, List.length_nil, List.length_set, List.length_range, List.length_take, List.length_drop, za3, za4, zaf, zad, zan, zah, zai, zax] <;> omega) | decide | fail) only [zal, zat, zb6, zdd, zdw, zd6, zbu, zbd, zaj, zae, Option.map_some, za8, zam, zdx, layF, srcF, zb4, ↓reduceIte, Bool.false_eq_true, eq_self, ifp, ifn, zbi, zdq, zee, zc3, zdr, List.map_cons, List.map_nil, List.length_cons, List.length_nil, List.getElem?_cons_zero, List.getElem?_cons_succ, List.cons_append, List.nil_append, List.append_nil, List.set_cons_zero, List.set_cons_succ, List.replicate_zero, List.replicate_succ, List.all_cons, List.all_nil, zbv, zd7, zbn, zl1, zga, zgf, zd8, zds, AV.one, D.one, Value.oneCell', Bool.and_self, true_and, Nat.zero_add, Nat.add_zero, Nat.reduceEqDiff, zdk, zab, zcv, zak, List.drop_zero, Nat.reduceAdd, List.nil_append, zbd, Nat.zero_mul, Nat.reduceMul, List.flatten_cons, List.flatten_nil, znq, znr, mk_39, zhe, pa_64, pl_64_0, pl_64_1, zc_64]
      refine hK10 _ _ ?_
      refine zcx hp (τ' := frL [(7, .d (oD true)), (8, .d (.fp (netC n) 0)), (9, .d (shD sh)), (10, .d (iD kn)), (11, .d (.fp (netC m) 0))]) (H' := []) ?_ ?_
      · refine Rt.trans (Rt.gc (keep := [0,4]) (by decide) (by decide) (by simp [])) ?_
        refine Rt.trans (Rt.heap (H' := [.cells [.d (zbw m.ins), .os 5 1 0 m.gates.length, .d (zbw m.out), .d (zbj m.drive)], .cells (avs (m.gates.flatMap zf3))]) (by simp only [zbj, gcH, zb1, zaz, gcVs, gcV, Nat.reduceAdd, posN, List.map_cons, List.map_nil, List.getD_cons_zero, List.getD_cons_succ, ↓reduceIte, Nat.reduceEqDiff, Option.map_some, zbw]; subst hm; simp [negN, notG, zf3, iD])) ?_
        refine Rt.trans (Rt.fz (id := 1) (l := (m.gates.flatMap zf3)) rfl) ?_
        refine Rt.trans (Rt.heap (H' := [.cells (avs (netC m)), .dead]) (by simp only [zbj, fzH, zc0, zb9, fzVs, fzV, zav, zap, List.map_cons, List.map_nil, ↓reduceIte, List.set_cons_zero, List.set_cons_succ, hta, netC, zbw, zbx])) ?_
        refine Rt.trans (Rt.fz (id := 0) (l := (netC m)) rfl) ?_
        refine Rt.trans (Rt.gc (keep := []) (by decide) (by decide) (by simp [fzH])) ?_
        refine Rt.end (zaa (zaa (zaa (zaa (zaa (zaq _) rfl) rfl) rfl) rfl) rfl) ?_
        first | rfl | (simp only [zbj, za9, zbp, zbt, zbm, gcH, zb1, zcb, zcc, gc_m, fz_m, zaz, gcVs, gcV, zcy, fzH, zc0, zb9, zcd, zbl, Nat.reduceAdd, fzVs, fzV, posN, zav, zap, List.map_cons, List.map_nil, List.getD_cons_zero, List.getD_cons_succ, ↓reduceIte, Nat.reduceEqDiff, Option.map_some, List.set_cons_zero, List.set_cons_succ, zba, zak, Nat.mul_one, List.length_map, List.cons_append, List.nil_append, rawC, u8D, netD, netC, zbw, zbx, shD, bltD, bddC, zc9]; first | done | rfl)
      refine zg1 zao hp hc mixed rfl [(0, []), (1, []), (2, []), (3, []), (7, []), (4, [0]), (5, []), (6, []), (8, [])] [[], [], [], [], [3], [2, 3, 4], [0, 1, 2, 3, 4, 5], [], [0, 1, 2, 3, 4, 5, 6, 7]] 2 (by kernel_rfl) fun K11 hK11 => ?_
      simp -dsimp -implicitDefEqProofs (disch := first | assumption | omega | (simp [maxLen, zab, za3, za4, zaf, zad, zan, zah, zai, zax] <;> omega) | decide) only [zae, q_o, za8, layF, zdl, ↓reduceIte, q_b, q_f, q_s, q_l, List.replicate_zero, List.replicate_succ, q_n, Nat.reduceEqDiff, shB, appB, zdk, zav, zap, zak, iD, oD, zbj, zdl, frzF, zgm, zfc, List.getD_cons_zero, List.getD_cons_succ, zg2, zgn, zfd, zrw, netC, zbw, zbx, shD, zes, zfi, ztq]
      refine ke_by (zit n (by omega) (by omega)) rfl ?_
      simp -dsimp -implicitDefEqProofs (disch := first | assumption | omega | (simp [maxLen, zab, za3, za4, zaf, zad, zan, zah, zai, zax] <;> omega) | decide) only [zae, q_o, za8, layF, zdl, ↓reduceIte, q_b, ifp, ifn, q_f, q_s, q_l, List.replicate_zero, List.replicate_succ, zbv, q_a, zbn, and_true, q_n, Nat.reduceEqDiff, shB, appB, zak, iD, Nat.reduceAdd, zdl, frzF, zjs, zfv, zf2, zfd, sS_bs, zes, zfi, zgp]
      refine ke_rel (zna _ m sh _ hBI) rfl fun r hr0 => ?_
      obtain ⟨ns, rs, e, rfl, hr⟩ := hr0
      have hbt := hr.blt (by rw [hm]; show n.ins.length ≤ 100; omega) hno
      simp -dsimp -implicitDefEqProofs (disch := first | assumption | omega | (simp [maxLen, zab, za3, za4, zaf, zad, zan, zah, zai, zax] <;> omega) | decide) only [zae, zb4, ↓reduceIte, q_b, ifp, q_f, q_s, q_l, zca, q_a, D.one, Value.oneCell', q_n, Nat.reduceEqDiff, iD, Nat.reduceAdd, zfv, zid, zhl, bltD, bddC, zns]
      refine hK11 _ _ ?_
      refine zas fun K12 hK12 => ?_
      refine zcx hp (τ' := frL [(7, .d (oD true)), (8, .d (.fp (netC n) 0)), (9, .d (shD sh)), (10, .d (iD kn)), (12, .d (.fp (bddC ns rs ++ [iD e]) 0))]) (H' := []) ?_ ?_
      · refine Rt.trans (Rt.fz (id := 0) (l := bddC ns rs ++ [iD e]) rfl) ?_
        refine Rt.trans (Rt.gc (keep := []) (by decide) (by decide) (by simp [fzH])) ?_
        refine Rt.end (zaa (zaa (zaa (zaa (zaa (zaq _) rfl) rfl) rfl) rfl) rfl) ?_
        first | rfl | (simp only [zbj, za9, zbp, zbt, zbm, gcH, zb1, zcb, zcc, gc_m, fz_m, zaz, gcVs, gcV, zcy, fzH, zc0, zb9, zcd, zbl, Nat.reduceAdd, fzVs, fzV, posN, zav, zap, List.map_cons, List.map_nil, List.getD_cons_zero, List.getD_cons_succ, ↓reduceIte, Nat.reduceEqDiff, Option.map_some, List.set_cons_zero, List.set_cons_succ, zba, zak, Nat.mul_one, List.length_map, List.cons_append, List.nil_append, rawC, u8D, netD, netC, zbw, zbx, shD, bltD, bddC, zc9]; first | done | rfl)
      refine zac hp zao hc rfl fun K13 hK13 => ?_
      rcases hbt with rfl | ⟨rfl, fs, us, rfl, hB⟩
      · simp -dsimp -implicitDefEqProofs (disch := first | assumption | omega | (simp [maxLen, zab, za3, za4, zaf, zad, zan, zah, zai, zax] <;> omega) | decide) only [zat, zb6, za1, zaj, zae, q_o, za8, zam, zay, zff, ↓reduceIte, q_b, q_f, q_l, q_s, q_n, Nat.reduceEqDiff, iD, oD, zbj, netC, zbw, zbx, shD, bddC, Int.reduceBNe, zgr, zjx, zjy]
        refine hK13 _ _ ?_
        refine zau rfl (fun ht => ?_) (fun ht => ?_)
        · refine zac hp zao hc rfl fun K14 hK14 => ?_
          simp -dsimp -implicitDefEqProofs (disch := first | assumption | omega | (simp [maxLen, zab, za3, za4, zaf, zad, zan, zah, zai, zax] <;> omega) | decide) only [zal, zag, zbq, zat, zb6, za1, zaj, sT_g, zae, gK_t, q_o, za8, zam, zay, zd9, ↓reduceIte, q_b, zar, zck, q_f, q_l, q_n, Nat.reduceEqDiff, beq_self_eq_true, zgr, zjx, zjy]
          refine hK14 _ _ ?_
          refine zbc ?_
          show za7 _ _ = _
          simp (disch := first | assumption | omega | (simp [maxLen, zab, za3, za4, zaf, zad, zan, zah, zai, zax] <;> omega) | decide) only [za7, retV, zbr, D.fix, zbi, ↓reduceIte, Option.map_some, List.length_nil, oD]
        · cases ht
      · simp -dsimp -implicitDefEqProofs (disch := first | assumption | omega | (simp [maxLen, zab, za3, za4, zaf, zad, zan, zah, zai, zax] <;> omega) | decide) only [zat, zb6, za1, zaj, zae, q_o, za8, zam, zay, zff, ↓reduceIte, q_b, q_f, q_l, q_s, q_n, Nat.reduceEqDiff, iD, oD, zbj, netC, zbw, zbx, shD, bddC, bne_self_eq_false, zgr, zjx, zjy]
        refine hK13 _ _ ?_
        refine zau rfl (fun ht => ?_) (fun ht => ?_)
        · cases ht
        · refine zbb (hK12 _ _ ?_)
          refine zas fun K15 hK15 => ?_
          rw [hm] at hB
          obtain ⟨hO, hO2, hrs⟩ := two_of hkl hB
          obtain ⟨t, htd⟩ : ∃ t, t = nth fs kn := ⟨_, rfl⟩
          obtain ⟨s, hsd⟩ : ∃ s, s = nth fs (2 + n.ins.length + n.gates.length) := ⟨_, rfl⟩
          have hval := zpv hO.row (by omega) hO.len (rs := rs) fun k hk => by
            rw [hrs] at hk
            rcases List.mem_cons.1 hk with h | h
            · rw [h]; exact zer hO.hin
            · rw [List.mem_singleton.1 h]; exact zer hO2.hin
          have hk1 := zsh ((erow us).map toI) (rs.map fun (k : Nat) => (k : Int)) (by rw [erow_I]; unfold maxLen; have := hO.len; omega) (by rw [List.length_map, hrs]; simp)
          have hnn : ∀ a, s.eval a = !t.eval a := fun a => by rw [hsd, htd]; exact negN_not hkl hB.F a
          rw [hval, ← bddD_I, hrs, ← htd, ← hsd] at hk1
          rw [← htd] at hO
          rw [← hsd] at hO2
          rw [hrs, ← htd, ← hsd]
          have q9 : (((2 : Nat) : Int) != 2) = false := rfl
          refine zac hp zao hc rfl fun K16 hK16 => ?_
          simp -dsimp -implicitDefEqProofs (disch := first | assumption | omega | (simp [maxLen, zab, za3, za4, zaf, zad, zan, zah, zai, zax] <;> omega) | decide) only [zal, zat, zb6, za1, zb8, zbh, sT_g, zae, gK_t, q_o, za8, zam, zay, lenF, zbe, zff, ↓reduceIte, q_b, zar, zbk, q_f, q_s, q_l, q_n, Nat.reduceEqDiff, zdm, zej, Nat.reduceAdd, q9, zhf, zeh, zez, zft, zfg, zfh, zea]
          refine zda (hk1) rfl ?_
          simp -dsimp -implicitDefEqProofs (disch := first | assumption | omega | (simp [maxLen, zab, za3, za4, zaf, zad, zan, zah, zai, zax] <;> omega) | decide) only [zbq, zfn, zaj, sT_g, zae, gK_t, q_o, zfo, ↓reduceIte, q_b, zar, zbk, q_f, q_l, Nat.reduceEqDiff, oD]
          refine hK16 _ _ ?_
          refine zau rfl (fun ht => ?_) (fun ht => ?_)
          · cases ht
          · refine zbb (hK15 _ _ ?_)
            refine zac hp zao hc rfl fun K17 hK17 => ?_
            simp -dsimp -implicitDefEqProofs (disch := first | assumption | omega | (simp [maxLen, zab, za3, za4, zaf, zad, zan, zah, zai, zax] <;> omega) | decide) only [zal, zat, zbh, zae, q_o, za8, ↓reduceIte, q_b, q_f, q_s, q_l, Nat.reduceEqDiff, zak, zes, zfi]
            refine zda (vars_c n sh hsh (by omega)) rfl ?_
            simp -dsimp -implicitDefEqProofs (disch := first | assumption | omega | (simp [maxLen, zab, za3, za4, zaf, zad, zan, zah, zai, zax] <;> omega) | decide) only [zag, zaj, ↓reduceIte, q_b, q_f, iD]
            refine hK17 _ _ ?_
            refine zac hp zao hc rfl fun K18 hK18 => ?_
            simp -dsimp -implicitDefEqProofs (disch := first | assumption | omega | (simp [maxLen, zab, za3, za4, zaf, zad, zan, zah, zai, zax] <;> omega) | decide) only [zal, zat, zbh, zae, q_o, za8, ↓reduceIte, q_b, q_f, q_s, q_l, Nat.reduceEqDiff, zak, zes, zfi]
            refine zda (zos n sh hnb hsh (by omega)) rfl ?_
            simp -dsimp -implicitDefEqProofs (disch := first | assumption | omega | (simp [maxLen, zab, za3, za4, zaf, zad, zan, zah, zai, zax] <;> omega) | decide) only [zag, zaj, ↓reduceIte, q_b, q_f, zc9]
            refine hK18 _ _ ?_
            refine zas fun K19 hK19 => ?_
            have htl := zax n sh
            obtain ⟨P, hP⟩ : ∃ P, P = 2 ^ zcr n.ins.length sh := ⟨_, rfl⟩
            have hpw : P ≤ 1048576 := by rw [hP]; exact Nat.le_trans (Nat.pow_le_pow_right (by decide) (show zcr n.ins.length sh ≤ 20 by omega)) (show 2 ^ 20 ≤ 1048576 by decide)
            have hre0 : rowT (negN n kn) sh kn P = (List.range P).map fun j => t.eval (asn (zcr n.ins.length sh) j) := by
              rw [hP, htd]
              exact zt5 (n := negN n kn) hsh hB.F (negN_ok hnb.g2 hkl) (show zcr n.ins.length sh ≤ 20 by omega) (by rw [zjm]; show kn < 2 + n.ins.length + (n.gates.length + 1); omega) (Nat.le_refl _)
            have hrow : nth (zjz n sh) kn = (List.range P).map fun j => t.eval (asn (zcr n.ins.length sh) j) := by
              rw [znc hkl, ← negN_row hkl (k := kn), ← hP]
              exact hre0
            obtain ⟨tb, htb⟩ : ∃ tb, tb = zjz n sh := ⟨_, rfl⟩
            rw [← htb] at htl hrow ⊢
            have qa : ((tb.length : Int) != 2 + (n.ins.length : Int) + n.gates.length) = false := by simp; omega
            refine zac hp zao hc rfl fun K20 hK20 => ?_
            simp -dsimp -implicitDefEqProofs (disch := first | assumption | omega | (simp [maxLen, zab, za3, za4, zaf, zad, zan, zah, zai, zax] <;> omega) | decide) only [zal, zat, zb8, zbh, zae, q_o, za8, lenF, zbe, ↓reduceIte, q_b, q_f, q_s, q_l, Nat.reduceEqDiff, zak, zm6, zes, zfi]
            refine zda (zit n (by omega) (by omega)) rfl ?_
            simp -dsimp -implicitDefEqProofs (disch := first | assumption | omega | (simp [maxLen, zab, za3, za4, zaf, zad, zan, zah, zai, zax] <;> omega) | decide) only [za1, zaj, zae, q_o, zay, zff, ↓reduceIte, q_b, q_f, Nat.reduceEqDiff, iD, qa]
            refine hK20 _ _ ?_
            refine zau rfl (fun ht => ?_) (fun ht => ?_)
            · cases ht
            · refine zbb (hK19 _ _ ?_)
              refine zac hp zao hc rfl fun K21 hK21 => ?_
              simp -dsimp -implicitDefEqProofs (disch := first | assumption | omega | (simp [maxLen, zab, za3, za4, zaf, zad, zan, zah, zai, zax] <;> omega) | decide) only [zal, zag, zat, zdo, zaj, zae, q_o, za8, ixO, za2, ↓reduceIte, q_b, ifp, q_f, Int.toNat_natCast, q_n, Nat.reduceEqDiff, zcg, za9, zcg, zm6, ztn, zto]
              obtain ⟨row, hro⟩ : ∃ row, row = nth tb kn := ⟨_, rfl⟩
              have hrl : row.length = P := by rw [hro, hrow]; simp
              have hcc : row.count true = CT (zcr n.ins.length sh) t P := by rw [hro, hrow]; rfl
              rw [← hro]
              clear hro hrow htb htl
              refine hK21 _ _ ?_
              refine zac hp zao hc rfl fun K22 hK22 => ?_
              simp -dsimp -implicitDefEqProofs (disch := first | assumption | omega | (simp [maxLen, zab, za3, za4, zaf, zad, zan, zah, zai, zax] <;> omega) | decide) only [zag, zaj, q_f]
              refine hK22 _ _ ?_
              refine zas fun K23 hK23 => ?_
              refine zac hp zao hc rfl fun K24 hK24 => ?_
              simp -dsimp -implicitDefEqProofs (disch := first | assumption | omega | (simp [maxLen, zab, za3, za4, zaf, zad, zan, zah, zai, zax] <;> omega) | decide) only [zag, zaj, q_f]
              refine hK24 _ _ ?_
              refine zbg ?_
              refine zby hp (fun τ' H' mm => ∃ (i : Nat), (i ≤ P) ∧ mm = P - i ∧ H' = [] ∧ τ' = frL [(7, .d (oD true)), (12, .d (.fp (bddC (erow us) [num us t, num us s] ++ [iD 0]) 0)), (13, .d (iD (zcr n.ins.length sh))), (15, .d (za9 row)), (16, .d (iD ((row.take i).count true))), (17, .d (iD i))]) (P) ?_ ⟨0, Nat.zero_le _, rfl, rfl, rfl⟩ ?_
              · refine Rt.end (zaa (zaa (zaa (zaa (zaa (zaa (zaq _) rfl) rfl) rfl) rfl) rfl) rfl) ?_
                first | rfl | (simp only [zbj, za9, zbp, zbt, zbm, gcH, zb1, zcb, zcc, gc_m, fz_m, zaz, gcVs, gcV, zcy, fzH, zc0, zb9, zcd, zbl, Nat.reduceAdd, fzVs, fzV, posN, zav, zap, List.map_cons, List.map_nil, List.getD_cons_zero, List.getD_cons_succ, ↓reduceIte, Nat.reduceEqDiff, Option.map_some, List.set_cons_zero, List.set_cons_succ, zba, zak, Nat.mul_one, List.length_map, List.cons_append, List.nil_append, rawC, u8D, netD, netC, zbw, zbx, shD, bltD, bddC, zc9]; first | done | rfl)
              rintro τ' H' mm ⟨i, hi, rfl, rfl, rfl⟩
              refine zas fun K25 hK25 => ?_
              refine zac hp zao hc rfl fun K26 hK26 => ?_
              simp -dsimp -implicitDefEqProofs (disch := first | assumption | omega | (simp [maxLen, zab, za3, za4, zaf, zad, zan, zah, zai, zax] <;> omega) | decide) only [zal, za1, zb8, zaj, zae, q_o, zay, lenF, zbe, zcz, ↓reduceIte, q_b, q_f, q_s, q_l, q_n, Nat.reduceEqDiff, iD, oD, za9, Nat.reduceAdd, bddC, zhy]
              refine hK26 _ _ ?_
              refine zau rfl (fun ht => ?_) (fun ht => ?_)
              · have hlt : i < row.length := by simp at ht; omega
                have hcl : (row.take i).count true ≤ i := Nat.le_trans (List.count_le_length ..) (by rw [List.length_take]; omega)
                refine zbb (hK25 _ _ ?_)
                refine zas fun K27 hK27 => ?_
                refine zbg ?_
                refine zac hp zao hc rfl fun K28 hK28 => ?_
                simp -dsimp -implicitDefEqProofs (disch := first | assumption | omega | (simp [maxLen, zab, za3, za4, zaf, zad, zan, zah, zai, zax] <;> omega) | decide) only [zal, zat, zdo, zaj, zae, q_o, za8, ixO, za2, ↓reduceIte, q_b, ifp, q_f, Int.toNat_natCast, q_n, Nat.reduceEqDiff, zcg, oD, zcg, zhy, sz_4, ag_4]
                refine hK28 _ _ ?_
                refine zau rfl (fun ht => ?_) (fun ht => ?_)
                · have hct : (row.take (i + 1)).count true = (row.take i).count true + 1 := by rw [zfq hlt, List.count_append, show nth row i = true by simpa using ht]; simp
                  refine zcw hp zao hc rfl fun K29 hK29 => ?_
                  simp -dsimp -implicitDefEqProofs (disch := first | assumption | omega | (simp [maxLen, zab, za3, za4, zaf, zad, zan, zah, zai, zax] <;> omega) | decide) only [zal, zag, za1, zaj, zae, q_o, zay, zcu, ↓reduceIte, q_b, q_f, Nat.reduceEqDiff]
                  refine hK29 _ _ (hK27 _ _ ?_)
                  refine zcw hp zao hc rfl fun K30 hK30 => ?_
                  simp -dsimp -implicitDefEqProofs (disch := first | assumption | omega | (simp [maxLen, zab, za3, za4, zaf, zad, zan, zah, zai, zax] <;> omega) | decide) only [zal, zag, za1, zaj, zae, q_o, zay, zcu, ↓reduceIte, q_b, q_f, Nat.reduceEqDiff]
                  refine hK30 _ _ ⟨_, _, _, ?_, ⟨i + 1, by omega, rfl, rfl, rfl⟩, ?_⟩
                  · first | omega | (simp only [List.length_cons]; omega) | (dsimp only; omega)
                  · refine Rt.end (zaa (zaa (zaa (zaa (zaa (zaa (zaq _) rfl) (by first | rfl | (simp [frL, iD]; done) | simp [frL, iD, *])) rfl) rfl) rfl) rfl) ?_
                    first | rfl | (simp only [zbj, za9, zbp, zbt, zbm, gcH, zb1, zcb, zcc, gc_m, fz_m, zaz, gcVs, gcV, zcy, fzH, zc0, zb9, zcd, zbl, Nat.reduceAdd, fzVs, fzV, posN, zav, zap, List.map_cons, List.map_nil, List.getD_cons_zero, List.getD_cons_succ, ↓reduceIte, Nat.reduceEqDiff, Option.map_some, List.set_cons_zero, List.set_cons_succ, zba, zak, Nat.mul_one, List.length_map, List.cons_append, List.nil_append, rawC, u8D, netD, netC, zbw, zbx, shD, bltD, bddC, zc9]; first | done | rfl)
                · have hct : (row.take (i + 1)).count true = (row.take i).count true := by rw [zfq hlt, List.count_append, show nth row i = false by simpa using ht]; simp
                  refine zbb (hK27 _ _ ?_)
                  refine zcw hp zao hc rfl fun K31 hK31 => ?_
                  simp -dsimp -implicitDefEqProofs (disch := first | assumption | omega | (simp [maxLen, zab, za3, za4, zaf, zad, zan, zah, zai, zax] <;> omega) | decide) only [zal, zag, za1, zaj, zae, q_o, zay, zcu, ↓reduceIte, q_b, q_f, Nat.reduceEqDiff]
                  refine hK31 _ _ ⟨_, _, _, ?_, ⟨i + 1, by omega, rfl, rfl, rfl⟩, ?_⟩
                  · first | omega | (simp only [List.length_cons]; omega) | (dsimp only; omega)
                  · refine Rt.end (zaa (zaa (zaa (zaa (zaa (zaa (zaq _) rfl) (by first | rfl | (simp [frL, iD]; done) | simp [frL, iD, *])) rfl) rfl) rfl) rfl) ?_
                    first | rfl | (simp only [zbj, za9, zbp, zbt, zbm, gcH, zb1, zcb, zcc, gc_m, fz_m, zaz, gcVs, gcV, zcy, fzH, zc0, zb9, zcd, zbl, Nat.reduceAdd, fzVs, fzV, posN, zav, zap, List.map_cons, List.map_nil, List.getD_cons_zero, List.getD_cons_succ, ↓reduceIte, Nat.reduceEqDiff, Option.map_some, List.set_cons_zero, List.set_cons_succ, zba, zak, Nat.mul_one, List.length_map, List.cons_append, List.nil_append, rawC, u8D, netD, netC, zbw, zbx, shD, bltD, bddC, zc9]; first | done | rfl)
              · have hie : i = row.length := by simp at ht; omega
                refine zcl (hK23 _ _ ?_)
                rw [hie, List.take_length]
                obtain ⟨c1, hc1⟩ : ∃ c1, c1 = row.count true := ⟨_, rfl⟩
                rw [← hc1]
                obtain ⟨a1, a2⟩ := hO.count (W := zcr n.ins.length sh) (Nat.le_refl _) (by omega)
                obtain ⟨a3, a4⟩ := hO2.count (W := zcr n.ins.length sh) (Nat.le_refl _) (by omega)
                obtain ⟨a5, a6⟩ := hO.count (W := zcr n.ins.length sh + 1) (by omega) (by omega)
                have d1 : cntT (zcr n.ins.length sh) t 0 = c1 := by rw [cnt_CT hO.ok (Nat.zero_le _), hc1, hcc, hP]; rfl
                have d3 : cntT (zcr n.ins.length sh + 1) t 0 = 2 * c1 := by rw [zsl hO.ok (Nat.zero_le _), d1]
                obtain ⟨c2, hc2⟩ : ∃ c2, c2 = cntT (zcr n.ins.length sh) s 0 := ⟨_, rfl⟩
                have d2 : c1 + c2 = P := by
                  rw [hc2, cnt_CT hO2.ok (Nat.zero_le _), hc1, hcc, show zcr n.ins.length sh - 0 = zcr n.ins.length sh by omega, ← hP]
                  exact count_not P _ _ fun i _ => hnn _
                rw [d1] at a1
                rw [← hc2] at a3
                rw [d3] at a5
                have hl3 := hO.len
                have k1 := zkh _ us [num us t, num us s] hO.row (by omega) (by unfold bigB; omega) ((num us t : Nat) : Int) (zcr n.ins.length sh : Nat)
                have k2 := zkh _ us [num us t, num us s] hO.row (by omega) (by unfold bigB; omega) ((num us s : Nat) : Int) (zcr n.ins.length sh : Nat)
                have k3 := zkh _ us [num us t, num us s] hO.row (by omega) (by unfold bigB; omega) ((num us t : Nat) : Int) ((zcr n.ins.length sh + 1 : Nat) : Int)
                rw [a1, a2] at k1
                rw [a3, a4] at k2
                rw [a5, a6] at k3
                refine zcs zao hc mixed rfl (q := 1) (by kernel_rfl) (by kernel_rfl) fun K32 hK32 => ?_
                simp -dsimp -implicitDefEqProofs (disch := first | assumption | omega | (simp [maxLen, zab, za3, za4, zaf, zad, zan, zah, zai, zax] <;> omega) | decide) only [zco, zcq, zem, ze2, zd5, zae, q_o, za8, zam, ixO, za2, ↓reduceIte, q_b, ifp, q_f, q_s, q_l, List.replicate_zero, List.replicate_succ, q_n, Nat.reduceEqDiff, zdm, zej, iD, Nat.reduceAdd, Int.toNat_zero, natD, zhf, zez, zft, zeh, zfg, zfh, zea, sz_3, ag_3]
                refine zda (k1) rfl ?_
                simp -dsimp -implicitDefEqProofs (disch := first | assumption | omega | (simp [maxLen, zab, za3, za4, zaf, zad, zan, zah, zai, zax] <;> omega) | decide) only [zfp, ze3, zc4, zae, q_o, layF, zdl, zb4, ↓reduceIte, q_b, ifp, q_f, q_s, q_l, zca, q_a, D.one, Value.oneCell', q_n, Nat.reduceEqDiff, shB, appB, killAll, zdk, zav, zap, iD, Nat.reduceAdd, zdl, frzF, sz_59, za_59]
                refine hK32 _ _ ?_
                refine zcx hp (τ' := frL [(7, .d (oD true)), (12, .d (.fp (bddC (erow us) [num us t, num us s] ++ [iD 0]) 0)), (13, .d (iD (zcr n.ins.length sh))), (16, .d (iD c1)), (18, .d (.fp [iD c1, iD 0] 0))]) (H' := []) ?_ ?_
                · refine Rt.trans (Rt.fz (id := 0) (l := [iD c1, iD 0]) rfl) ?_
                  refine Rt.trans (Rt.gc (keep := []) (by decide) (by decide) (by simp [fzH])) ?_
                  refine Rt.end (zaa (zaa (zaa (zaa (zaa (zaq _) rfl) rfl) rfl) rfl) rfl) ?_
                  first | rfl | (simp only [zbj, za9, zbp, zbt, zbm, gcH, zb1, zcb, zcc, gc_m, fz_m, zaz, gcVs, gcV, zcy, fzH, zc0, zb9, zcd, zbl, Nat.reduceAdd, fzVs, fzV, posN, zav, zap, List.map_cons, List.map_nil, List.getD_cons_zero, List.getD_cons_succ, ↓reduceIte, Nat.reduceEqDiff, Option.map_some, List.set_cons_zero, List.set_cons_succ, zba, zak, Nat.mul_one, List.length_map, List.cons_append, List.nil_append, rawC, u8D, netD, netC, zbw, zbx, shD, bltD, bddC, zc9]; first | done | rfl)
                refine zcs zao hc mixed rfl (q := 1) (by kernel_rfl) (by kernel_rfl) fun K33 hK33 => ?_
                simp -dsimp -implicitDefEqProofs (disch := first | assumption | omega | (simp [maxLen, zab, za3, za4, zaf, zad, zan, zah, zai, zax] <;> omega) | decide) only [zco, zcq, zem, ze2, zd5, zae, q_o, za8, zam, ixO, za2, ↓reduceIte, q_b, ifp, q_f, q_s, q_l, List.replicate_zero, List.replicate_succ, q_n, Nat.reduceEqDiff, zdm, zej, iD, oD, Nat.reduceAdd, Int.reduceToNat, bddC, natD, zhf, zez, zft, zeh, zfg, zfh, zea, sz_3, ag_3]
                refine zda (k2) rfl ?_
                simp -dsimp -implicitDefEqProofs (disch := first | assumption | omega | (simp [maxLen, zab, za3, za4, zaf, zad, zan, zah, zai, zax] <;> omega) | decide) only [zfp, ze3, zc4, zae, q_o, layF, zdl, zb4, ↓reduceIte, q_b, ifp, q_f, q_s, q_l, zca, q_a, D.one, Value.oneCell', q_n, Nat.reduceEqDiff, shB, appB, killAll, zdk, zav, zap, iD, Nat.reduceAdd, zdl, frzF, sz_59, za_59]
                refine hK33 _ _ ?_
                refine zcx hp (τ' := frL [(7, .d (oD true)), (12, .d (.fp (bddC (erow us) [num us t, num us s] ++ [iD 0]) 0)), (13, .d (iD (zcr n.ins.length sh))), (16, .d (iD c1)), (18, .d (.fp [iD c1, iD 0] 0)), (19, .d (.fp [iD c2, iD 0] 0))]) (H' := []) ?_ ?_
                · refine Rt.trans (Rt.fz (id := 0) (l := [iD c2, iD 0]) rfl) ?_
                  refine Rt.trans (Rt.gc (keep := []) (by decide) (by decide) (by simp [fzH])) ?_
                  refine Rt.end (zaa (zaa (zaa (zaa (zaa (zaa (zaq _) rfl) rfl) rfl) rfl) rfl) rfl) ?_
                  first | rfl | (simp only [zbj, za9, zbp, zbt, zbm, gcH, zb1, zcb, zcc, gc_m, fz_m, zaz, gcVs, gcV, zcy, fzH, zc0, zb9, zcd, zbl, Nat.reduceAdd, fzVs, fzV, posN, zav, zap, List.map_cons, List.map_nil, List.getD_cons_zero, List.getD_cons_succ, ↓reduceIte, Nat.reduceEqDiff, Option.map_some, List.set_cons_zero, List.set_cons_succ, zba, zak, Nat.mul_one, List.length_map, List.cons_append, List.nil_append, rawC, u8D, netD, netC, zbw, zbx, shD, bltD, bddC, zc9]; first | done | rfl)
                refine zcs zao hc mixed rfl (q := 1) (by kernel_rfl) (by kernel_rfl) fun K34 hK34 => ?_
                simp -dsimp -implicitDefEqProofs (disch := first | assumption | omega | (simp [maxLen, zab, za3, za4, zaf, zad, zan, zah, zai, zax] <;> omega) | decide) only [zco, zcq, zem, ze2, zdt, zd5, zae, q_o, za8, zam, ixO, za2, zay, zcu, ↓reduceIte, q_b, ifp, q_f, q_s, q_l, List.replicate_zero, List.replicate_succ, q_n, Nat.reduceEqDiff, zdm, zej, iD, oD, Nat.reduceAdd, Int.toNat_zero, bddC, natD, zhf, zez, zft, zeh, zfg, zfh, zea, sz_3, ag_3]
                refine zda (k3) rfl ?_
                simp -dsimp -implicitDefEqProofs (disch := first | assumption | omega | (simp [maxLen, zab, za3, za4, zaf, zad, zan, zah, zai, zax] <;> omega) | decide) only [zfp, ze3, zc4, zae, q_o, layF, zdl, zb4, ↓reduceIte, q_b, ifp, q_f, q_s, q_l, zca, q_a, D.one, Value.oneCell', q_n, Nat.reduceEqDiff, shB, appB, killAll, zdk, zav, zap, iD, Nat.reduceAdd, zdl, frzF, sz_59, za_59]
                refine hK34 _ _ ?_
                refine zcx hp (τ' := frL [(7, .d (oD true)), (13, .d (iD (zcr n.ins.length sh))), (16, .d (iD c1)), (18, .d (.fp [iD c1, iD 0] 0)), (19, .d (.fp [iD c2, iD 0] 0)), (20, .d (.fp [iD (2 * c1 : Nat), iD 0] 0))]) (H' := []) ?_ ?_
                · refine Rt.trans (Rt.fz (id := 0) (l := [iD (2 * c1 : Nat), iD 0]) rfl) ?_
                  refine Rt.trans (Rt.gc (keep := []) (by decide) (by decide) (by simp [fzH])) ?_
                  refine Rt.end (zaa (zaa (zaa (zaa (zaa (zaa (zaq _) rfl) rfl) rfl) rfl) rfl) rfl) ?_
                  first | rfl | (simp only [zbj, za9, zbp, zbt, zbm, gcH, zb1, zcb, zcc, gc_m, fz_m, zaz, gcVs, gcV, zcy, fzH, zc0, zb9, zcd, zbl, Nat.reduceAdd, fzVs, fzV, posN, zav, zap, List.map_cons, List.map_nil, List.getD_cons_zero, List.getD_cons_succ, ↓reduceIte, Nat.reduceEqDiff, Option.map_some, List.set_cons_zero, List.set_cons_succ, zba, zak, Nat.mul_one, List.length_map, List.cons_append, List.nil_append, rawC, u8D, netD, netC, zbw, zbx, shD, bltD, bddC, zc9]; first | done | rfl)
                have hu : IntKind.u64.wrap (zcr n.ins.length sh : Int) = zcr n.ins.length sh := zrt (by omega) (by omega)
                have hw : IntKind.i64.wrap (1 * 2 ^ min (zcr n.ins.length sh) 64) = (P : Int) := by rw [hP]; exact zku (a := 1) (by omega) (by omega) (by omega)
                have hw' : IntKind.i64.wrap (2 ^ min (zcr n.ins.length sh) 64) = (P : Int) := by rw [← hw, Int.one_mul]
                have qB : ((c1 : Int) + (c2 : Int) == (P : Int)) = true := by simp; omega
                have qC : (((2 * c1 : Nat) : Int) == 2 * (c1 : Int)) = true := by simp
                refine zac hp zao hc rfl fun K35 hK35 => ?_
                simp -dsimp -implicitDefEqProofs (disch := first | assumption | omega | (simp [maxLen, zab, za3, za4, zaf, zad, zan, zah, zai, zax] <;> omega) | decide) only [zal, zag, zbq, zat, zb6, za1, ze8, zaj, sT_g, zae, gK_t, q_o, za8, zam, zay, zgx, zcu, znl, zd9, zp5, ↓reduceIte, q_b, zar, zck, q_f, q_l, Int.toNat_natCast, q_n, Nat.reduceEqDiff, iD, oD, hu, hw, qB, qC, beq_self_eq_true, fo_59_1, zjx, zjy, fo_59_0, sz_3, ag_3, ik_3, ik_78]
                refine hK35 _ _ ?_
                refine zbc ?_
                show za7 _ _ = _
                simp (disch := first | assumption | omega | (simp [maxLen, zab, za3, za4, zaf, zad, zan, zah, zai, zax] <;> omega) | decide) only [za7, retV, zbr, D.fix, zbi, ↓reduceIte, Option.map_some, List.length_nil, oD]
end Go.Proofs.Ytgfnpfchdlcoeaa
