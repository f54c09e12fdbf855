/- What is built is valid. -/
import Derived.Test.YtgfnpfchdlcoeaaEb
set_option linter.unusedVariables false
set_option linter.unusedSimpArgs false
namespace Go.Proofs.Ytgfnpfchdlcoeaa
open Go Go.RowKit
def fewB (x : RawN) : Bool := decide ((x.gates.length : Int) ≤ 20) && (decide ((x.ins.length : Int) ≤ 5) && decide ((x.out.length : Int) ≤ 9))
set_option maxRecDepth 100000 in
set_option linter.unusedVariables false in
set_option maxHeartbeats 4000000 in
theorem zt4 (x : RawN) : zce Try.prog 11 [.agg (rawC x)] (.d (oD (fewB x))) := by
  refine zb7 (fn := Try.f11) (by kernel_rfl) Try.func11 rfl (Nat.le_of_ble_eq_true rfl) fun c hc hp => ?_
  refine zch (τ' := frL [(0, .d (.agg (rawC x)))]) (zaa (zaq _) (by first | rfl | (simp [Fr.put, frL, gcV, fzV, posN, iD, bD, uD, oD, zbj, za9, zbp, zbt, zbm, za3, za4]; done) | simp [Fr.put, frL, gcV, fzV, posN, iD, bD, uD, oD, zbj, za9, zbp, zbt, zbm, za3, za4, *])) ?_
  refine zac hp zao hc rfl fun K1 hK1 => ?_
  simp -dsimp -implicitDefEqProofs (disch := first | assumption | omega | (simp only [maxLen, List.length_replicate, eq_self, true_and, and_true, and_self, zab, List.length_map, List.length_append, List.length_cons, List.length_nil, List.length_set, List.length_range, List.length_take, List.length_drop, za3, za4] <;> omega) | decide | fail) only [zal, zco, zag, zdh, zbq, zed, zat, zcq, zb6, zem, zia, zl3, zdo, ze2, zoc, zod, zgh, zoe, za1, zdt, zfn, sE_un, ze8, zi7, zdd, zi8, zei, zf6, ze9, zhc, zew, zgi, zlj, sE_mf, zb8, zl4, zs6, zv8, zo6, zs7, zbh, zd5, zfb, zof, zdy, zv9, zcm, zfp, zlk, zro, zdw, zrp, zd6, zo7, zp3, sE_mm, zbu, ze3, sT_mu, sE_mu, zqp, zwa, sT_me, sE_me, sT_es, sE_es, zwb, zwc, zwd, zwe, zbd, zaj, zc4, sT_g, zae, gK_t, gK_f, Option.map_some, Option.map_none, Option.bind_some, za8, zam, zmv, zh8, zfz, ixO, za2, zl0, zhg, zay, zgx, zdx, lenF, zbe, layF, zdl, srcF, zb4, zev, zfo, zcu, zg7, znl, zp4, zix, zd9, zff, zcz, znm, zgj, zeb, zwf, zo8, zp5, v_shr, zuo, v_or, v_xor, zht, zo2, ↓reduceIte, if_true, if_false, Bool.false_eq_true, eq_self, ifp, ifn, zar, zck, zbk, zi5, zbi, zdq, zee, zc3, zdr, zd4, ziv, List.map_cons, List.map_nil, List.length_cons, List.length_nil, List.getElem?_cons_zero, List.getElem?_cons_succ, List.cons_append, List.nil_append, List.append_nil, List.set_cons_zero, List.set_cons_succ, List.replicate_zero, List.replicate_succ, List.all_cons, List.all_nil, zbv, zd7, zbn, zl1, zmx, as_fs, as_fp, zga, as_op, zum, zv6, zgf, zca, zd8, zds, AV.one, D.one, Value.oneCell', Bool.and_self, Bool.and_true, Bool.true_and, and_true, true_and, and_self, Int.toNat_natCast, Nat.mul_one, Nat.zero_add, Nat.add_zero, Nat.reduceEqDiff, shB, appB, zgy, zhw, killAll, zjr, zdk, zav, zap, zab, ze4, zrs, zcv, zj9, zoh, zba, zdm, zej, zi9, zak, List.drop_zero, zcg, zh2, zrt, w_u8, zl5, iD, bD, uD, oD, zbj, za9, zbp, zbt, zbm, Nat.reduceAdd, List.nil_append, zbd, List.length_map, zdl, frzF, zjs, D.fix, Int.sub_zero, Int.toNat_zero, Int.reduceToNat, Nat.zero_mul, Nat.reduceMul, zgz, List.map_replicate, ziy, zl6, zl7, Bool.not_false, Bool.not_true, List.flatten_cons, List.flatten_nil, zoi, zoj, Nat.reduceBNe, Nat.reduceBEq, zjb, zic, List.filterMap_nil, zhd, zij, zly, zli, zgd, zmu, zn2, zlz, zn3, zn4, zh7, ly_un, zo4, zn5, zkp, ly_mf, zs5, zvv, zvw, zn6, zn7, zvx, zn8, zre, ly_bs, zvy, rawC, zkx, zky]
  refine hK1 _ _ ?_
  refine zac hp zao hc rfl fun K2 hK2 => ?_
  rcases (show ¬ (x.gates.length : Int) ≤ 20 ∨ ((x.gates.length : Int) ≤ 20 ∧ ¬ (x.ins.length : Int) ≤ 5) ∨ ((x.gates.length : Int) ≤ 20 ∧ (x.ins.length : Int) ≤ 5) by omega) with q | ⟨q, q'⟩ | ⟨q, q'⟩
  · have q1 := decide_eq_false q
    have q2 := q1
    simp -dsimp -implicitDefEqProofs (disch := first | assumption | omega | (simp only [maxLen, List.length_replicate, eq_self, true_and, and_true, and_self, zab, List.length_map, List.length_append, List.length_cons, List.length_nil, List.length_set, List.length_range, List.length_take, List.length_drop, za3, za4] <;> omega) | decide | fail) only [zal, zco, zag, zdh, zbq, zed, zat, zcq, zb6, zem, zia, zl3, zdo, ze2, zoc, zod, zgh, zoe, za1, zdt, zfn, sE_un, ze8, zi7, zdd, zi8, zei, zf6, ze9, zhc, zew, zgi, zlj, sE_mf, zb8, zl4, zs6, zv8, zo6, zs7, zbh, zd5, zfb, zof, zdy, zv9, zcm, zfp, zlk, zro, zdw, zrp, zd6, zo7, zp3, sE_mm, zbu, ze3, sT_mu, sE_mu, zqp, zwa, sT_me, sE_me, sT_es, sE_es, zwb, zwc, zwd, zwe, zbd, zaj, zc4, sT_g, zae, gK_t, gK_f, Option.map_some, Option.map_none, Option.bind_some, za8, zam, zmv, zh8, zfz, ixO, za2, zl0, zhg, zay, zgx, zdx, lenF, zbe, layF, zdl, srcF, zb4, zev, zfo, zcu, zg7, znl, zp4, zix, zd9, zff, zcz, znm, zgj, zeb, zwf, zo8, zp5, v_shr, zuo, v_or, v_xor, zht, zo2, ↓reduceIte, if_true, if_false, Bool.false_eq_true, eq_self, ifp, ifn, zar, zck, zbk, zi5, zbi, zdq, zee, zc3, zdr, zd4, ziv, List.map_cons, List.map_nil, List.length_cons, List.length_nil, List.getElem?_cons_zero, List.getElem?_cons_succ, List.cons_append, List.nil_append, List.append_nil, List.set_cons_zero, List.set_cons_succ, List.replicate_zero, List.replicate_succ, List.all_cons, List.all_nil, zbv, zd7, zbn, zl1, zmx, as_fs, as_fp, zga, as_op, zum, zv6, zgf, zca, zd8, zds, AV.one, D.one, Value.oneCell', Bool.and_self, Bool.and_true, Bool.true_and, and_true, true_and, and_self, Int.toNat_natCast, Nat.mul_one, Nat.zero_add, Nat.add_zero, Nat.reduceEqDiff, shB, appB, zgy, zhw, killAll, zjr, zdk, zav, zap, zab, ze4, zrs, zcv, zj9, zoh, zba, zdm, zej, zi9, zak, List.drop_zero, zcg, zh2, zrt, w_u8, zl5, iD, bD, uD, oD, zbj, za9, zbp, zbt, zbm, Nat.reduceAdd, List.nil_append, zbd, List.length_map, zdl, frzF, zjs, D.fix, Int.sub_zero, Int.toNat_zero, Int.reduceToNat, Nat.zero_mul, Nat.reduceMul, zgz, List.map_replicate, ziy, zl6, zl7, Bool.not_false, Bool.not_true, List.flatten_cons, List.flatten_nil, zoi, zoj, Nat.reduceBNe, Nat.reduceBEq, zjb, zic, List.filterMap_nil, zhd, zij, zly, zli, zgd, zmu, zn2, zlz, zn3, zn4, zh7, ly_un, zo4, zn5, zkp, ly_mf, zs5, zvv, zvw, zn6, zn7, zvx, zn8, zre, ly_bs, zvy, rawC, q1, q2, zm4, zus, zkx, zky, sz_23, ag_23, eo_23, mk_23, sz_3, ag_3, ik_3, zkb, zur, ztk, ztl, ztm, mk_22, zm5, zut, sz_24, ag_24, eo_24, mk_24]
    refine hK2 _ _ ?_
    refine zbc ?_
    show za7 _ _ = _
    simp (disch := first | assumption | omega | (simp only [maxLen, List.length_replicate, eq_self, true_and, and_true, and_self, zab, List.length_map, List.length_append, List.length_cons, List.length_nil, List.length_set, List.length_range, List.length_take, List.length_drop, za3, za4] <;> omega) | decide | fail) only [List.map_cons, List.map_nil, za7, zj6, retV, zbr, zek, zc2, zb5, zb0, zcn, zcf, zc7, zex, zfx, Nat.reduceAdd, zej, zi9, Nat.zero_add, zba, zak, zdm, zo9, fixm_b, zpa, zrq, zrr, fix_i, fix_b, fix_o, fix_fs, D.fix, List.length_map, zbi, ↓reduceIte, Nat.reduceEqDiff, Option.map_some, Option.bind_some, Nat.mul_one, List.getElem?_cons_zero, List.getElem?_cons_succ, List.length_cons, List.length_nil, iD, bD, uD, oD, zbj, za9, zbp, zbt, zbm, rawC]
    unfold fewB; rw [q1]; rfl
  · have q1 := decide_eq_true q
    have q2 := decide_eq_false q'
    simp -dsimp -implicitDefEqProofs (disch := first | assumption | omega | (simp only [maxLen, List.length_replicate, eq_self, true_and, and_true, and_self, zab, List.length_map, List.length_append, List.length_cons, List.length_nil, List.length_set, List.length_range, List.length_take, List.length_drop, za3, za4] <;> omega) | decide | fail) only [zal, zco, zag, zdh, zbq, zed, zat, zcq, zb6, zem, zia, zl3, zdo, ze2, zoc, zod, zgh, zoe, za1, zdt, zfn, sE_un, ze8, zi7, zdd, zi8, zei, zf6, ze9, zhc, zew, zgi, zlj, sE_mf, zb8, zl4, zs6, zv8, zo6, zs7, zbh, zd5, zfb, zof, zdy, zv9, zcm, zfp, zlk, zro, zdw, zrp, zd6, zo7, zp3, sE_mm, zbu, ze3, sT_mu, sE_mu, zqp, zwa, sT_me, sE_me, sT_es, sE_es, zwb, zwc, zwd, zwe, zbd, zaj, zc4, sT_g, zae, gK_t, gK_f, Option.map_some, Option.map_none, Option.bind_some, za8, zam, zmv, zh8, zfz, ixO, za2, zl0, zhg, zay, zgx, zdx, lenF, zbe, layF, zdl, srcF, zb4, zev, zfo, zcu, zg7, znl, zp4, zix, zd9, zff, zcz, znm, zgj, zeb, zwf, zo8, zp5, v_shr, zuo, v_or, v_xor, zht, zo2, ↓reduceIte, if_true, if_false, Bool.false_eq_true, eq_self, ifp, ifn, zar, zck, zbk, zi5, zbi, zdq, zee, zc3, zdr, zd4, ziv, List.map_cons, List.map_nil, List.length_cons, List.length_nil, List.getElem?_cons_zero, List.getElem?_cons_succ, List.cons_append, List.nil_append, List.append_nil, List.set_cons_zero, List.set_cons_succ, List.replicate_zero, List.replicate_succ, List.all_cons, List.all_nil, zbv, zd7, zbn, zl1, zmx, as_fs, as_fp, zga, as_op, zum, zv6, zgf, zca, zd8, zds, AV.one, D.one, Value.oneCell', Bool.and_self, Bool.and_true, Bool.true_and, and_true, true_and, and_self, Int.toNat_natCast, Nat.mul_one, Nat.zero_add, Nat.add_zero, Nat.reduceEqDiff, shB, appB, zgy, zhw, killAll, zjr, zdk, zav, zap, zab, ze4, zrs, zcv, zj9, zoh, zba, zdm, zej, zi9, zak, List.drop_zero, zcg, zh2, zrt, w_u8, zl5, iD, bD, uD, oD, zbj, za9, zbp, zbt, zbm, Nat.reduceAdd, List.nil_append, zbd, List.length_map, zdl, frzF, zjs, D.fix, Int.sub_zero, Int.toNat_zero, Int.reduceToNat, Nat.zero_mul, Nat.reduceMul, zgz, List.map_replicate, ziy, zl6, zl7, Bool.not_false, Bool.not_true, List.flatten_cons, List.flatten_nil, zoi, zoj, Nat.reduceBNe, Nat.reduceBEq, zjb, zic, List.filterMap_nil, zhd, zij, zly, zli, zgd, zmu, zn2, zlz, zn3, zn4, zh7, ly_un, zo4, zn5, zkp, ly_mf, zs5, zvv, zvw, zn6, zn7, zvx, zn8, zre, ly_bs, zvy, rawC, q1, q2, zm4, zus, zkx, zky, sz_23, ag_23, eo_23, mk_23, sz_3, ag_3, ik_3, zkb, zur, ztk, ztl, ztm, mk_22, zm5, zut, sz_24, ag_24, eo_24, mk_24]
    refine hK2 _ _ ?_
    refine zbc ?_
    show za7 _ _ = _
    simp (disch := first | assumption | omega | (simp only [maxLen, List.length_replicate, eq_self, true_and, and_true, and_self, zab, List.length_map, List.length_append, List.length_cons, List.length_nil, List.length_set, List.length_range, List.length_take, List.length_drop, za3, za4] <;> omega) | decide | fail) only [List.map_cons, List.map_nil, za7, zj6, retV, zbr, zek, zc2, zb5, zb0, zcn, zcf, zc7, zex, zfx, Nat.reduceAdd, zej, zi9, Nat.zero_add, zba, zak, zdm, zo9, fixm_b, zpa, zrq, zrr, fix_i, fix_b, fix_o, fix_fs, D.fix, List.length_map, zbi, ↓reduceIte, Nat.reduceEqDiff, Option.map_some, Option.bind_some, Nat.mul_one, List.getElem?_cons_zero, List.getElem?_cons_succ, List.length_cons, List.length_nil, iD, bD, uD, oD, zbj, za9, zbp, zbt, zbm, rawC]
    unfold fewB; rw [q1, q2]; rfl
  · have q1 := decide_eq_true q
    have q2 := decide_eq_true q'
    simp -dsimp -implicitDefEqProofs (disch := first | assumption | omega | (simp only [maxLen, List.length_replicate, eq_self, true_and, and_true, and_self, zab, List.length_map, List.length_append, List.length_cons, List.length_nil, List.length_set, List.length_range, List.length_take, List.length_drop, za3, za4] <;> omega) | decide | fail) only [zal, zco, zag, zdh, zbq, zed, zat, zcq, zb6, zem, zia, zl3, zdo, ze2, zoc, zod, zgh, zoe, za1, zdt, zfn, sE_un, ze8, zi7, zdd, zi8, zei, zf6, ze9, zhc, zew, zgi, zlj, sE_mf, zb8, zl4, zs6, zv8, zo6, zs7, zbh, zd5, zfb, zof, zdy, zv9, zcm, zfp, zlk, zro, zdw, zrp, zd6, zo7, zp3, sE_mm, zbu, ze3, sT_mu, sE_mu, zqp, zwa, sT_me, sE_me, sT_es, sE_es, zwb, zwc, zwd, zwe, zbd, zaj, zc4, sT_g, zae, gK_t, gK_f, Option.map_some, Option.map_none, Option.bind_some, za8, zam, zmv, zh8, zfz, ixO, za2, zl0, zhg, zay, zgx, zdx, lenF, zbe, layF, zdl, srcF, zb4, zev, zfo, zcu, zg7, znl, zp4, zix, zd9, zff, zcz, znm, zgj, zeb, zwf, zo8, zp5, v_shr, zuo, v_or, v_xor, zht, zo2, ↓reduceIte, if_true, if_false, Bool.false_eq_true, eq_self, ifp, ifn, zar, zck, zbk, zi5, zbi, zdq, zee, zc3, zdr, zd4, ziv, List.map_cons, List.map_nil, List.length_cons, List.length_nil, List.getElem?_cons_zero, List.getElem?_cons_succ, List.cons_append, List.nil_append, List.append_nil, List.set_cons_zero, List.set_cons_succ, List.replicate_zero, List.replicate_succ, List.all_cons, List.all_nil, zbv, zd7, zbn, zl1, zmx, as_fs, as_fp, zga, as_op, zum, zv6, zgf, zca, zd8, zds, AV.one, D.one, Value.oneCell', Bool.and_self, Bool.and_true, Bool.true_and, and_true, true_and, and_self, Int.toNat_natCast, Nat.mul_one, Nat.zero_add, Nat.add_zero, Nat.reduceEqDiff, shB, appB, zgy, zhw, killAll, zjr, zdk, zav, zap, zab, ze4, zrs, zcv, zj9, zoh, zba, zdm, zej, zi9, zak, List.drop_zero, zcg, zh2, zrt, w_u8, zl5, iD, bD, uD, oD, zbj, za9, zbp, zbt, zbm, Nat.reduceAdd, List.nil_append, zbd, List.length_map, zdl, frzF, zjs, D.fix, Int.sub_zero, Int.toNat_zero, Int.reduceToNat, Nat.zero_mul, Nat.reduceMul, zgz, List.map_replicate, ziy, zl6, zl7, Bool.not_false, Bool.not_true, List.flatten_cons, List.flatten_nil, zoi, zoj, Nat.reduceBNe, Nat.reduceBEq, zjb, zic, List.filterMap_nil, zhd, zij, zly, zli, zgd, zmu, zn2, zlz, zn3, zn4, zh7, ly_un, zo4, zn5, zkp, ly_mf, zs5, zvv, zvw, zn6, zn7, zvx, zn8, zre, ly_bs, zvy, rawC, q1, q2, zm4, zus, zkx, zky, sz_23, ag_23, eo_23, mk_23, sz_3, ag_3, ik_3, zkb, zur, ztk, ztl, ztm, mk_22, zm5, zut, sz_24, ag_24, eo_24, mk_24]
    refine hK2 _ _ ?_
    refine zbc ?_
    show za7 _ _ = _
    simp (disch := first | assumption | omega | (simp only [maxLen, List.length_replicate, eq_self, true_and, and_true, and_self, zab, List.length_map, List.length_append, List.length_cons, List.length_nil, List.length_set, List.length_range, List.length_take, List.length_drop, za3, za4] <;> omega) | decide | fail) only [List.map_cons, List.map_nil, za7, zj6, retV, zbr, zek, zc2, zb5, zb0, zcn, zcf, zc7, zex, zfx, Nat.reduceAdd, zej, zi9, Nat.zero_add, zba, zak, zdm, zo9, fixm_b, zpa, zrq, zrr, fix_i, fix_b, fix_o, fix_fs, D.fix, List.length_map, zbi, ↓reduceIte, Nat.reduceEqDiff, Option.map_some, Option.bind_some, Nat.mul_one, List.getElem?_cons_zero, List.getElem?_cons_succ, List.length_cons, List.length_nil, iD, bD, uD, oD, zbj, za9, zbp, zbt, zbm, rawC]
    unfold fewB; rw [q1, q2]; rfl
theorem exp_row {V : Nat} : ∀ (fs acc : List T), (∀ t ∈ fs, t.Ok V 0) → RowOk V acc → RowOk V (fs.foldl (fun acc t => visT t acc) acc)
  | [], acc, _, h => h
  | t :: fs, acc, hf, h => exp_row fs (visT t acc) (fun s hs => hf s (List.mem_cons_of_mem _ hs)) (zm8 t 0 acc (hf t (List.mem_cons_self ..)) h)
theorem expT_row {V : Nat} {fs : List T} (h : ∀ t ∈ fs, t.Ok V 0) : RowOk V (expT fs) := exp_row fs [] h (.nil V)
theorem roots_in {fs : List T} {nodes : List Int} (h : ∀ k ∈ nodes, 0 ≤ k ∧ k < fs.length) : ∀ t ∈ ze1 fs nodes, t ∈ fs := fun t ht => by
  obtain ⟨k, hk, rfl⟩ := List.mem_map.1 ht
  exact zdi (by have := h k hk; omega)
theorem fs_len3000 {V ins : Nat} {sh : Sh} {gates : List Gate} {fs : List T} (h : FsP V ins sh gates gates.length fs) (hi : ins ≤ 100) (hq : ∀ q, q < gates.length → (expT (fs.take (2 + ins + (q + 1)))).length ≤ 3000) : (expT fs).length ≤ 3000 := by
  have hl := h.len
  by_cases h0 : gates.length = 0
  · have h1 := zvi fs []
    have h2 : (fs.map T.sz).sum ≤ (fs.map T.sz).length * 3 := sum_le fun x hx => by
      obtain ⟨t, ht, rfl⟩ := List.mem_map.1 hx
      obtain ⟨k, hk, rfl⟩ := List.getElem_of_mem ht
      rw [← zde hk]
      by_cases hk0 : k = 0
      · subst hk0; rw [h.f0]; decide
      by_cases hk1 : k = 1
      · subst hk1; rw [h.f1]; decide
      have := h.fv (k - 2) (by omega)
      rw [show k = 2 + (k - 2) by omega, this]
      simp [varT, T.sz]
    rw [List.length_map] at h2
    simp only [List.length_nil, Nat.zero_add] at h1
    unfold expT
    omega
  · have := hq (gates.length - 1) (by omega)
    rw [List.take_of_length_le (by omega)] at this
    exact this
structure Blt (V : Nat) (n : Net) (sh : Sh) (nodes : List Int) (fs : List T) (us : List T) (rs : List Nat) : Prop where
  F : FsP V n.ins.length sh n.gates n.gates.length fs
  row : RowOk V us
  len : us.length ≤ 3000
  hin : ∀ t ∈ ze1 fs nodes, t ∈ full us
  rs : rs = (ze1 fs nodes).map (num us)
  us : us = expT (ze1 fs nodes)
theorem BuR.blt {V : Nat} {n : Net} {sh : Sh} {nodes : List Int} {ns : List Nd} {rs : List Nat} {e : Int} (h : BuR V n sh nodes ns rs e) (hi : n.ins.length ≤ 100) (hno : nodes.any (unkB (2 + n.ins.length + n.gates.length)) = false) :
    (e = 2) ∨ (e = 0 ∧ ∃ fs us, ns = erow us ∧ Blt V n sh nodes fs us rs) := by
  rcases h with ⟨h, _⟩ | ⟨h, fs, hF, hq, h1, h2⟩
  · exact .inl h
  · refine .inr ⟨h, fs, expT (ze1 fs nodes), h1, ?_⟩
    have hl := hF.len
    have hrin := roots_in (fs := fs) (nodes := nodes) fun k hk => by
      have := List.any_eq_false.1 hno k hk
      simp only [unkB, Bool.or_eq_true, decide_eq_true_eq, not_or] at this
      omega
    have hrow := expT_row (V := V) (fs := ze1 fs nodes) fun t ht => hF.ok t (hrin t ht)
    have hfull := expT_row (V := V) (fs := fs) hF.ok
    have hle := exp_le hfull (fs := ze1 fs nodes) fun t ht => zpo (hrin t ht)
    exact ⟨hF, hrow, Nat.le_trans hle (fs_len3000 hF hi hq), fun t ht => zpo ht, h2, rfl⟩
theorem row_vB {V : Nat} {us : List T} (hr : RowOk V us) (hV : V ≤ 1000) {i : Nat} (hi : i < us.length) : vB ((erow us).map toI) i = true := by
  have hin : us[i] ∈ us := List.getElem_mem hi
  have hfi : us[i] ∈ full us := List.mem_cons_of_mem _ (List.mem_cons_of_mem _ hin)
  obtain ⟨v, lo, h, ht⟩ := hr.node hin
  have hg : nth ((erow us).map toI) i = ⟨v, num us lo, num us h⟩ := by
    rw [zde (by simp [erow]; exact hi)]
    simp [erow, toI, ndOf, ht, T.v, T.l, T.h]
  have hc := hr.ch i hi
  rw [zde hi, ht] at hc
  obtain ⟨c1, c2⟩ := hc
  have hp : us.take i <+: us := List.take_prefix _ _
  have n1 := zer c1
  have n2 := zer c2
  rw [List.length_take, Nat.min_eq_left (by omega)] at n1 n2
  have hch := hr.chf hfi
  rw [ht] at hch hfi
  have hok := hr.okf hfi
  have key : ∀ s : T, s ∈ full us → s.Ok V (v + 1) → (num us s : Int) < 2 ∨ (v : Int) < (nth ((erow us).map toI) ((num us s : Int) - 2).toNat).v := fun s hs hso => by
    rcases zji s with h | h
    · have := zt0 (us := us) h; left; omega
    · right
      have h2 := zjq hr hs h
      have hlt := zer hs
      have he := zmm hr hs h
      rw [show ((num us s : Int) - 2).toNat = num us s - 2 by omega, zmz (by rw [zai]; omega), he]
      obtain ⟨v', l', h', rfl⟩ := zln h
      have := hso.1
      show (v : Int) < (v' : Int)
      omega
  rw [vB_iff]
  refine ⟨?_, ?_, ?_, ?_, ?_, ?_, ?_, ?_, ?_, ?_⟩ <;> rw [hg] <;> try simp only
  · omega
  · have := hok.2.1; omega
  · intro e
    exact hok.2.2.1 (zey hch.1 hch.2 (by omega))
  · intro hm
    obtain ⟨j, hj, he⟩ := List.mem_take_iff_getElem.1 hm
    have hjl : j < us.length := by simp [erow] at hj; omega
    have hji : j < i := by omega
    simp only [erow, List.getElem_map, toI] at he
    have hjin : us[j] ∈ us := List.getElem_mem hjl
    have e2 : ndOf us us[j] = ndOf us (.node v lo h) := by
      simp only [NI.mk.injEq] at he
      obtain ⟨a1, a2, a3⟩ := he
      have : ∀ a b : Nd, a.v = b.v → a.lo = b.lo → a.hi = b.hi → a = b := fun a b h1 h2 h3 => by cases a; cases b; simp_all
      refine this _ _ ?_ ?_ ?_ <;> (simp only [ndOf, T.v, T.l, T.h] at a1 a2 a3 ⊢; omega)
    have e3 := nd_inj hr hjin (t := .node v lo h) rfl hch.1 hch.2 e2
    rw [← ht] at e3
    have hnd := hr.nd
    have : j = i := by
      have h1 : (full us)[2 + j]'(by rw [zfe]; omega) = us[j] := by simp [full, Nat.add_comm 2 j]
      have h2 : (full us)[2 + i]'(by rw [zfe]; omega) = us[i] := by simp [full, Nat.add_comm 2 i]
      have a := List.Nodup.idxOf_getElem hnd (2 + j) (by rw [zfe]; omega)
      have b := List.Nodup.idxOf_getElem hnd (2 + i) (by rw [zfe]; omega)
      rw [h1, e3] at a
      rw [h2] at b
      omega
    omega
  · omega
  · have := zfa hp c1
    simp only [T.l] at this c1 n1 ⊢
    omega
  · exact key lo hch.1 hok.2.2.2.1
  · omega
  · have := zfa hp c2
    simp only [T.h] at this c2 n2 ⊢
    omega
  · exact key h hch.2 hok.2.2.2.2
theorem zpv {V : Nat} {us : List T} (hr : RowOk V us) (hV : V ≤ 1000) (hl : us.length ≤ 3000) {rs : List Nat} (h : ∀ k ∈ rs, k < 2 + us.length) : zki ((erow us).map toI) (rs.map fun (k : Nat) => (k : Int)) = true := by
  have hlen : ((erow us).map toI).length = us.length := by simp [erow]
  rw [zve (by omega) fun i hi => row_vB hr hV (by omega), List.all_eq_true]
  intro x hx
  obtain ⟨k, hk, rfl⟩ := List.mem_map.1 hx
  have := h k hk
  unfold rootB
  rw [hlen]
  simp; omega
end Go.Proofs.Ytgfnpfchdlcoeaa
