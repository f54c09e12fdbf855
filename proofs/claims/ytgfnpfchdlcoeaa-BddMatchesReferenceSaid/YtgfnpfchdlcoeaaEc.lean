/- What is built is valid. -/
import Derived.Test.YtgfnpfchdlcoeaaEb
set_option linter.unusedVariables false
set_option linter.unusedSimpArgs false
namespace Go.Proofs.Ytgfnpfchdlcoeaa
open Go Go.RowKit
def jfr (x : RawN) : Bool := decide ((x.gates.length : Int) ≤ 20) && (decide ((x.ins.length : Int) ≤ 5) && decide ((x.out.length : Int) ≤ 9))
set_option maxRecDepth 100000 in
set_option linter.unusedVariables false in
set_option maxHeartbeats 4000000 in
theorem jch (x : RawN) : zbi Try.prog 11 [.agg (ziq x)] (.d (oD (jfr x))) := by
 refine za8 (fn := Try.f11) (by kernel_rfl) Try.func11 rfl (Nat.le_of_ble_eq_true rfl) fun c hc hp => ?_
 refine zba (τ' := frL [(0, .d (.agg (ziq x)))]) (zaa (zae _) (by first | rfl | (simp [Fr.put, frL, gcV, fzV, zcp, iD, bD, uD, oD, zay, zas, zbm, zbr, zbp, zir, zis]; done) | simp [Fr.put, frL, gcV, fzV, zcp, iD, bD, uD, oD, zay, zas, zbm, zbr, zbp, zir, zis, *])) ?_
 refine zab hp zad hc rfl fun K1 hK1 => ?_
 simp -dsimp -implicitDefEqProofs (disch := first | assumption | omega | (simp only [maxLen, List.length_replicate, eq_self, true_and, and_true, and_self, zah, List.length_map, List.length_append, List.length_cons, List.length_nil, List.length_set, List.length_range, List.length_take, List.length_drop, zir, zis] <;> omega) | decide | fail) only [zm5, zm6, zhm, zhn, zm7, zm8, zm9, zna, jas, jat, zke, zkf, jau, jav, zkg, zkh, zki, zkj, zru, zrv, jaw, jax, znb, znc, zkk, zkl, zgs, zgt, znd, zne, zho, zhp, jay, jaz, zrw, zrx, zry, zrz, zr0, zr1, zkm, zkn, zko, zkp, zr2, zr3, zkq, zkr, znf, zng, ja0, ja1, zr4, zr5, ja2, ja3, zks, zkt, ja4, ja5, zr6, zr7, ja6, ja7, ja8, ja9, zr8, zr9, zsa, zsb, zau, zrs, zrt, jmy, zm4, jmw, jmx, Option.map_some, Option.map_none, Option.bind_some, zam, zac, zkz, zfs, zd6, ixO, zai, zk5, zgz, zsc, zf9, zb7, zc1, zar, zb0, zc6, zic, za6, zdy, jbq, jbb, jbc, jbd, jbe, jbf, jbg, jbh, jbi, jbj, jbk, jbl, zse, zsf, jbm, jbn, jbo, jmz, jbp, zmu, zmv, ↓reduceIte, if_true, if_false, Bool.false_eq_true, eq_self, ifp, ifn, zfw, zj3, zj4, zj5, zat, zcw, zdo, zb2, zc5, zdb, zhi, List.map_cons, List.map_nil, List.length_cons, List.length_nil, List.getElem?_cons_zero, List.getElem?_cons_succ, List.cons_append, List.nil_append, List.append_nil, List.set_cons_zero, List.set_cons_succ, List.replicate_zero, List.replicate_succ, List.all_cons, List.all_nil, zkd, zdg, zhl, zl2, zm2, jal, jam, jan, jao, jap, zrr, zfh, zm3, zdh, zcx, AV.one, D.one, Value.oneCell', Bool.and_self, Bool.and_true, Bool.true_and, and_true, true_and, and_self, Int.toNat_natCast, Nat.mul_one, Nat.zero_add, Nat.add_zero, Nat.reduceEqDiff, shB, zqn, zgu, zhr, killAll, zjb, jbr, za2, zav, zah, zjk, znj, zif, znk, zku, zbf, zdz, zgj, zgk, zax, List.drop_zero, zie, ztn, zoe, jm0, zsg, iD, bD, uD, oD, zay, zas, zbm, zbr, zbp, Nat.reduceAdd, List.nil_append, zau, List.length_map, zc6, zpe, zll, D.fix, Int.sub_zero, Int.toNat_zero, Int.reduceToNat, Nat.zero_mul, Nat.reduceMul, zfz, List.map_replicate, zhs, zht, zhu, Bool.not_false, Bool.not_true, List.flatten_cons, List.flatten_nil, zkw, zkx, Nat.reduceBNe, Nat.reduceBEq, zfy, ze8, List.filterMap_nil, jba, zmw, zhk, zmx, zmy, jad, zj6, jae, zj7, zj8, zrl, jaf, zmz, zj9, zgq, jag, zrm, zrn, zro, zka, zkb, zrp, zkc, zm0, jah, zrq, ziq, zpq, zpr]
 refine hK1 _ _ ?_
 refine zab hp zad hc rfl fun K2 hK2 => ?_
 rcases (show ¬ (x.gates.length : Int) ≤ 20 ∨ ((x.gates.length : Int) ≤ 20 ∧ ¬ (x.ins.length : Int) ≤ 5) ∨ ((x.gates.length : Int) ≤ 20 ∧ (x.ins.length : Int) ≤ 5) by omega) with q | ⟨q, q'⟩ | ⟨q, q'⟩
 ·have q1 := decide_eq_false q
  have q2 := q1
  simp -dsimp -implicitDefEqProofs (disch := first | assumption | omega | (simp only [maxLen, List.length_replicate, eq_self, true_and, and_true, and_self, zah, List.length_map, List.length_append, List.length_cons, List.length_nil, List.length_set, List.length_range, List.length_take, List.length_drop, zir, zis] <;> omega) | decide | fail) only [zm5, zm6, zhm, zhn, zm7, zm8, zm9, zna, jas, jat, zke, zkf, jau, jav, zkg, zkh, zki, zkj, zru, zrv, jaw, jax, znb, znc, zkk, zkl, zgs, zgt, znd, zne, zho, zhp, jay, jaz, zrw, zrx, zry, zrz, zr0, zr1, zkm, zkn, zko, zkp, zr2, zr3, zkq, zkr, znf, zng, ja0, ja1, zr4, zr5, ja2, ja3, zks, zkt, ja4, ja5, zr6, zr7, ja6, ja7, ja8, ja9, zr8, zr9, zsa, zsb, zau, zrs, zrt, jmy, zm4, jmw, jmx, Option.map_some, Option.map_none, Option.bind_some, zam, zac, zkz, zfs, zd6, ixO, zai, zk5, zgz, zsc, zf9, zb7, zc1, zar, zb0, zc6, zic, za6, zdy, jbq, jbb, jbc, jbd, jbe, jbf, jbg, jbh, jbi, jbj, jbk, jbl, zse, zsf, jbm, jbn, jbo, jmz, jbp, zmu, zmv, ↓reduceIte, if_true, if_false, Bool.false_eq_true, eq_self, ifp, ifn, zfw, zj3, zj4, zj5, zat, zcw, zdo, zb2, zc5, zdb, zhi, List.map_cons, List.map_nil, List.length_cons, List.length_nil, List.getElem?_cons_zero, List.getElem?_cons_succ, List.cons_append, List.nil_append, List.append_nil, List.set_cons_zero, List.set_cons_succ, List.replicate_zero, List.replicate_succ, List.all_cons, List.all_nil, zkd, zdg, zhl, zl2, zm2, jal, jam, jan, jao, jap, zrr, zfh, zm3, zdh, zcx, AV.one, D.one, Value.oneCell', Bool.and_self, Bool.and_true, Bool.true_and, and_true, true_and, and_self, Int.toNat_natCast, Nat.mul_one, Nat.zero_add, Nat.add_zero, Nat.reduceEqDiff, shB, zqn, zgu, zhr, killAll, zjb, jbr, za2, zav, zah, zjk, znj, zif, znk, zku, zbf, zdz, zgj, zgk, zax, List.drop_zero, zie, ztn, zoe, jm0, zsg, iD, bD, uD, oD, zay, zas, zbm, zbr, zbp, Nat.reduceAdd, List.nil_append, zau, List.length_map, zc6, zpe, zll, D.fix, Int.sub_zero, Int.toNat_zero, Int.reduceToNat, Nat.zero_mul, Nat.reduceMul, zfz, List.map_replicate, zhs, zht, zhu, Bool.not_false, Bool.not_true, List.flatten_cons, List.flatten_nil, zkw, zkx, Nat.reduceBNe, Nat.reduceBEq, zfy, ze8, List.filterMap_nil, jba, zmw, zhk, zmx, zmy, jad, zj6, jae, zj7, zj8, zrl, jaf, zmz, zj9, zgq, jag, zrm, zrn, zro, zka, zkb, zrp, zkc, zm0, jah, zrq, ziq, q1, q2, znr, zxa, zpq, zpr, jbw, jbx, jby, jkz, zci, zcn, zsk, zjm, zw9, zvu, zvv, zvw, jky, zns, zxb, jbz, jb0, jb1, jk0]
  refine hK2 _ _ ?_
  refine zao ?_
  show zaj _ _ = _
  simp (disch := first | assumption | omega | (simp only [maxLen, List.length_replicate, eq_self, true_and, and_true, and_self, zah, List.length_map, List.length_append, List.length_cons, List.length_nil, List.length_set, List.length_range, List.length_take, List.length_drop, zir, zis] <;> omega) | decide | fail) only [List.map_cons, List.map_nil, zaj, zjg, zct, za1, zcr, zce, za9, za7, zbt, zbl, zcg, zfj, zkv, Nat.reduceAdd, zgj, zgk, Nat.zero_add, zbf, zax, zdz, zpg, jdw, zn5, ztl, ztm, jgz, jg0, jg1, jdu, D.fix, List.length_map, zat, ↓reduceIte, Nat.reduceEqDiff, Option.map_some, Option.bind_some, Nat.mul_one, List.getElem?_cons_zero, List.getElem?_cons_succ, List.length_cons, List.length_nil, iD, bD, uD, oD, zay, zas, zbm, zbr, zbp, ziq]
  unfold jfr; rw [q1]; rfl
 ·have q1 := decide_eq_true q
  have q2 := decide_eq_false q'
  simp -dsimp -implicitDefEqProofs (disch := first | assumption | omega | (simp only [maxLen, List.length_replicate, eq_self, true_and, and_true, and_self, zah, List.length_map, List.length_append, List.length_cons, List.length_nil, List.length_set, List.length_range, List.length_take, List.length_drop, zir, zis] <;> omega) | decide | fail) only [zm5, zm6, zhm, zhn, zm7, zm8, zm9, zna, jas, jat, zke, zkf, jau, jav, zkg, zkh, zki, zkj, zru, zrv, jaw, jax, znb, znc, zkk, zkl, zgs, zgt, znd, zne, zho, zhp, jay, jaz, zrw, zrx, zry, zrz, zr0, zr1, zkm, zkn, zko, zkp, zr2, zr3, zkq, zkr, znf, zng, ja0, ja1, zr4, zr5, ja2, ja3, zks, zkt, ja4, ja5, zr6, zr7, ja6, ja7, ja8, ja9, zr8, zr9, zsa, zsb, zau, zrs, zrt, jmy, zm4, jmw, jmx, Option.map_some, Option.map_none, Option.bind_some, zam, zac, zkz, zfs, zd6, ixO, zai, zk5, zgz, zsc, zf9, zb7, zc1, zar, zb0, zc6, zic, za6, zdy, jbq, jbb, jbc, jbd, jbe, jbf, jbg, jbh, jbi, jbj, jbk, jbl, zse, zsf, jbm, jbn, jbo, jmz, jbp, zmu, zmv, ↓reduceIte, if_true, if_false, Bool.false_eq_true, eq_self, ifp, ifn, zfw, zj3, zj4, zj5, zat, zcw, zdo, zb2, zc5, zdb, zhi, List.map_cons, List.map_nil, List.length_cons, List.length_nil, List.getElem?_cons_zero, List.getElem?_cons_succ, List.cons_append, List.nil_append, List.append_nil, List.set_cons_zero, List.set_cons_succ, List.replicate_zero, List.replicate_succ, List.all_cons, List.all_nil, zkd, zdg, zhl, zl2, zm2, jal, jam, jan, jao, jap, zrr, zfh, zm3, zdh, zcx, AV.one, D.one, Value.oneCell', Bool.and_self, Bool.and_true, Bool.true_and, and_true, true_and, and_self, Int.toNat_natCast, Nat.mul_one, Nat.zero_add, Nat.add_zero, Nat.reduceEqDiff, shB, zqn, zgu, zhr, killAll, zjb, jbr, za2, zav, zah, zjk, znj, zif, znk, zku, zbf, zdz, zgj, zgk, zax, List.drop_zero, zie, ztn, zoe, jm0, zsg, iD, bD, uD, oD, zay, zas, zbm, zbr, zbp, Nat.reduceAdd, List.nil_append, zau, List.length_map, zc6, zpe, zll, D.fix, Int.sub_zero, Int.toNat_zero, Int.reduceToNat, Nat.zero_mul, Nat.reduceMul, zfz, List.map_replicate, zhs, zht, zhu, Bool.not_false, Bool.not_true, List.flatten_cons, List.flatten_nil, zkw, zkx, Nat.reduceBNe, Nat.reduceBEq, zfy, ze8, List.filterMap_nil, jba, zmw, zhk, zmx, zmy, jad, zj6, jae, zj7, zj8, zrl, jaf, zmz, zj9, zgq, jag, zrm, zrn, zro, zka, zkb, zrp, zkc, zm0, jah, zrq, ziq, q1, q2, znr, zxa, zpq, zpr, jbw, jbx, jby, jkz, zci, zcn, zsk, zjm, zw9, zvu, zvv, zvw, jky, zns, zxb, jbz, jb0, jb1, jk0]
  refine hK2 _ _ ?_
  refine zao ?_
  show zaj _ _ = _
  simp (disch := first | assumption | omega | (simp only [maxLen, List.length_replicate, eq_self, true_and, and_true, and_self, zah, List.length_map, List.length_append, List.length_cons, List.length_nil, List.length_set, List.length_range, List.length_take, List.length_drop, zir, zis] <;> omega) | decide | fail) only [List.map_cons, List.map_nil, zaj, zjg, zct, za1, zcr, zce, za9, za7, zbt, zbl, zcg, zfj, zkv, Nat.reduceAdd, zgj, zgk, Nat.zero_add, zbf, zax, zdz, zpg, jdw, zn5, ztl, ztm, jgz, jg0, jg1, jdu, D.fix, List.length_map, zat, ↓reduceIte, Nat.reduceEqDiff, Option.map_some, Option.bind_some, Nat.mul_one, List.getElem?_cons_zero, List.getElem?_cons_succ, List.length_cons, List.length_nil, iD, bD, uD, oD, zay, zas, zbm, zbr, zbp, ziq]
  unfold jfr; rw [q1, q2]; rfl
 ·have q1 := decide_eq_true q
  have q2 := decide_eq_true q'
  simp -dsimp -implicitDefEqProofs (disch := first | assumption | omega | (simp only [maxLen, List.length_replicate, eq_self, true_and, and_true, and_self, zah, List.length_map, List.length_append, List.length_cons, List.length_nil, List.length_set, List.length_range, List.length_take, List.length_drop, zir, zis] <;> omega) | decide | fail) only [zm5, zm6, zhm, zhn, zm7, zm8, zm9, zna, jas, jat, zke, zkf, jau, jav, zkg, zkh, zki, zkj, zru, zrv, jaw, jax, znb, znc, zkk, zkl, zgs, zgt, znd, zne, zho, zhp, jay, jaz, zrw, zrx, zry, zrz, zr0, zr1, zkm, zkn, zko, zkp, zr2, zr3, zkq, zkr, znf, zng, ja0, ja1, zr4, zr5, ja2, ja3, zks, zkt, ja4, ja5, zr6, zr7, ja6, ja7, ja8, ja9, zr8, zr9, zsa, zsb, zau, zrs, zrt, jmy, zm4, jmw, jmx, Option.map_some, Option.map_none, Option.bind_some, zam, zac, zkz, zfs, zd6, ixO, zai, zk5, zgz, zsc, zf9, zb7, zc1, zar, zb0, zc6, zic, za6, zdy, jbq, jbb, jbc, jbd, jbe, jbf, jbg, jbh, jbi, jbj, jbk, jbl, zse, zsf, jbm, jbn, jbo, jmz, jbp, zmu, zmv, ↓reduceIte, if_true, if_false, Bool.false_eq_true, eq_self, ifp, ifn, zfw, zj3, zj4, zj5, zat, zcw, zdo, zb2, zc5, zdb, zhi, List.map_cons, List.map_nil, List.length_cons, List.length_nil, List.getElem?_cons_zero, List.getElem?_cons_succ, List.cons_append, List.nil_append, List.append_nil, List.set_cons_zero, List.set_cons_succ, List.replicate_zero, List.replicate_succ, List.all_cons, List.all_nil, zkd, zdg, zhl, zl2, zm2, jal, jam, jan, jao, jap, zrr, zfh, zm3, zdh, zcx, AV.one, D.one, Value.oneCell', Bool.and_self, Bool.and_true, Bool.true_and, and_true, true_and, and_self, Int.toNat_natCast, Nat.mul_one, Nat.zero_add, Nat.add_zero, Nat.reduceEqDiff, shB, zqn, zgu, zhr, killAll, zjb, jbr, za2, zav, zah, zjk, znj, zif, znk, zku, zbf, zdz, zgj, zgk, zax, List.drop_zero, zie, ztn, zoe, jm0, zsg, iD, bD, uD, oD, zay, zas, zbm, zbr, zbp, Nat.reduceAdd, List.nil_append, zau, List.length_map, zc6, zpe, zll, D.fix, Int.sub_zero, Int.toNat_zero, Int.reduceToNat, Nat.zero_mul, Nat.reduceMul, zfz, List.map_replicate, zhs, zht, zhu, Bool.not_false, Bool.not_true, List.flatten_cons, List.flatten_nil, zkw, zkx, Nat.reduceBNe, Nat.reduceBEq, zfy, ze8, List.filterMap_nil, jba, zmw, zhk, zmx, zmy, jad, zj6, jae, zj7, zj8, zrl, jaf, zmz, zj9, zgq, jag, zrm, zrn, zro, zka, zkb, zrp, zkc, zm0, jah, zrq, ziq, q1, q2, znr, zxa, zpq, zpr, jbw, jbx, jby, jkz, zci, zcn, zsk, zjm, zw9, zvu, zvv, zvw, jky, zns, zxb, jbz, jb0, jb1, jk0]
  refine hK2 _ _ ?_
  refine zao ?_
  show zaj _ _ = _
  simp (disch := first | assumption | omega | (simp only [maxLen, List.length_replicate, eq_self, true_and, and_true, and_self, zah, List.length_map, List.length_append, List.length_cons, List.length_nil, List.length_set, List.length_range, List.length_take, List.length_drop, zir, zis] <;> omega) | decide | fail) only [List.map_cons, List.map_nil, zaj, zjg, zct, za1, zcr, zce, za9, za7, zbt, zbl, zcg, zfj, zkv, Nat.reduceAdd, zgj, zgk, Nat.zero_add, zbf, zax, zdz, zpg, jdw, zn5, ztl, ztm, jgz, jg0, jg1, jdu, D.fix, List.length_map, zat, ↓reduceIte, Nat.reduceEqDiff, Option.map_some, Option.bind_some, Nat.mul_one, List.getElem?_cons_zero, List.getElem?_cons_succ, List.length_cons, List.length_nil, iD, bD, uD, oD, zay, zas, zbm, zbr, zbp, ziq]
  unfold jfr; rw [q1, q2]; rfl
theorem jfs {V : Nat} : ∀ (fs acc : List T), (∀ t ∈ fs, t.Ok V 0) → RowOk V acc → RowOk V (fs.foldl (fun acc t => zeu t acc) acc)
 | [], acc, _, h => h
 | t :: fs, acc, hf, h => jfs fs (zeu t acc) (fun s hs => hf s (List.mem_cons_of_mem _ hs)) (zio t 0 acc (hf t (List.mem_cons_self ..)) h)
theorem zuk {V : Nat} {fs : List T} (h : ∀ t ∈ fs, t.Ok V 0) : RowOk V (zd1 fs) := jfs fs [] h (.nil V)
theorem zzv {fs : List T} {nodes : List Int} (h : ∀ k ∈ nodes, 0 ≤ k ∧ k < fs.length) : ∀ t ∈ zej fs nodes, t ∈ fs := fun t ht => by
 obtain ⟨k, hk, rfl⟩ := List.mem_map.1 ht
 exact zcf (by have := h k hk; omega)
theorem jci {V ins : Nat} {sh : Sh} {gates : List Gate} {fs : List T} (h : FsP V ins sh gates gates.length fs) (hi : ins ≤ 100) (hq : ∀ q, q < gates.length → (zd1 (fs.take (2 + ins + (q + 1)))).length ≤ 3000) : (zd1 fs).length ≤ 3000 := by
 have hl := h.len
 by_cases h0 : gates.length = 0
 ·have h1 := zuj fs []
  have h2 : (fs.map T.sz).sum ≤ (fs.map T.sz).length * 3 := jfm fun x hx => by
   obtain ⟨t, ht, rfl⟩ := List.mem_map.1 hx
   obtain ⟨k, hk, rfl⟩ := List.getElem_of_mem ht
   rw [← zcd hk]
   by_cases hk0 : k = 0
   ·subst hk0; rw [h.f0]; decide
   by_cases hk1 : k = 1
   ·subst hk1; rw [h.f1]; decide
   have := h.fv (k - 2) (by omega)
   rw [show k = 2 + (k - 2) by omega, this]
   simp [zut, T.sz]
  rw [List.length_map] at h2
  simp only [List.length_nil, Nat.zero_add] at h1
  unfold zd1
  omega
 ·have := hq (gates.length - 1) (by omega)
  rw [List.take_of_length_le (by omega)] at this
  exact this
structure Blt (V : Nat) (n : Net) (sh : Sh) (nodes : List Int) (fs : List T) (us : List T) (rs : List Nat) : Prop where
 F : FsP V n.ins.length sh n.gates n.gates.length fs
 row : RowOk V us
 len : us.length ≤ 3000
 hin : ∀ t ∈ zej fs nodes, t ∈ zbn us
 rs : rs = (zej fs nodes).map (num us)
 us : us = zd1 (zej fs nodes)
end Go.Proofs.Ytgfnpfchdlcoeaa
