/- Equivalence decides: the law. -/
import Derived.Test.YtignimmnnccblaaQr
import Derived.Test.YtignimmnnccblaaMl
set_option linter.unusedVariables false
set_option linter.unusedSimpArgs false
set_option maxRecDepth 100000
set_option maxHeartbeats 4000000
namespace Go.Proofs.Ytignimmnnccblaa
open Go Go.RowKit
theorem zc7 : ((((((type_of% @zyr) ∧ ((type_of% @zys) ∧ (type_of% @zyt))) ∧ (((type_of% @zyu) ∧ (type_of% @zyv)) ∧ ((type_of% @znt) ∧ (type_of% @znu)))) ∧ (((type_of% @zs1) ∧ ((type_of% @zd1) ∧ (type_of% @zd2))) ∧ (((type_of% @zht) ∧ (type_of% @zhs)) ∧ ((type_of% @jix) ∧ (type_of% @jiy))))) ∧ ((((type_of% @jo8) ∧ ((type_of% @jcc) ∧ (type_of% @jcd))) ∧ (((type_of% @jce) ∧ (type_of% @jcf)) ∧ ((type_of% @jcg) ∧ (type_of% @jch)))) ∧ ((((type_of% @jci) ∧ (type_of% @jcj)) ∧ ((type_of% @jck) ∧ (type_of% @jcl))) ∧ (((type_of% @zwi) ∧ (type_of% @zwj)) ∧ ((type_of% @jfu) ∧ (type_of% @jfv)))))) ∧ (((((type_of% @jfw) ∧ ((type_of% @jo7) ∧ (type_of% @jo6))) ∧ (((type_of% @zfd) ∧ (type_of% @zfe)) ∧ ((type_of% @zff) ∧ (type_of% @zfg)))) ∧ (((type_of% @zn0) ∧ ((type_of% @zn1) ∧ (type_of% @zsb))) ∧ (((type_of% @zsa) ∧ (type_of% @zle)) ∧ ((type_of% @zlf) ∧ (type_of% @zkk))))) ∧ ((((type_of% @zkl) ∧ ((type_of% @zkm) ∧ (type_of% @zqb))) ∧ (((type_of% @zqc) ∧ (type_of% @zkg)) ∧ ((type_of% @zkh) ∧ (type_of% @zki)))) ∧ ((((type_of% @zkj) ∧ (type_of% @ze4)) ∧ ((type_of% @ze5) ∧ (type_of% @ze7))) ∧ (((type_of% @zp9) ∧ (type_of% @zqa)) ∧ ((type_of% @zl0) ∧ (type_of% @zl1))))))) := ⟨⟨⟨⟨⟨@zyr, ⟨@zys, @zyt⟩⟩, ⟨⟨@zyu, @zyv⟩, ⟨@znt, @znu⟩⟩⟩, ⟨⟨@zs1, ⟨@zd1, @zd2⟩⟩, ⟨⟨@zht, @zhs⟩, ⟨@jix, @jiy⟩⟩⟩⟩, ⟨⟨⟨@jo8, ⟨@jcc, @jcd⟩⟩, ⟨⟨@jce, @jcf⟩, ⟨@jcg, @jch⟩⟩⟩, ⟨⟨⟨@jci, @jcj⟩, ⟨@jck, @jcl⟩⟩, ⟨⟨@zwi, @zwj⟩, ⟨@jfu, @jfv⟩⟩⟩⟩⟩, ⟨⟨⟨⟨@jfw, ⟨@jo7, @jo6⟩⟩, ⟨⟨@zfd, @zfe⟩, ⟨@zff, @zfg⟩⟩⟩, ⟨⟨@zn0, ⟨@zn1, @zsb⟩⟩, ⟨⟨@zsa, @zle⟩, ⟨@zlf, @zkk⟩⟩⟩⟩, ⟨⟨⟨@zkl, ⟨@zkm, @zqb⟩⟩, ⟨⟨@zqc, @zkg⟩, ⟨@zkh, @zki⟩⟩⟩, ⟨⟨⟨@zkj, @ze4⟩, ⟨@ze5, @ze7⟩⟩, ⟨⟨@zp9, @zqa⟩, ⟨@zl0, @zl1⟩⟩⟩⟩⟩⟩
def bl (V j : Nat) : List Bool := (List.range V).map fun v => j.testBit (V - 1 - v)
theorem jem (V j : Nat) : bl (V + 1) j = j.testBit V :: bl V j := by
 unfold bl
 rw [List.range_succ_eq_map, List.map_cons, List.map_map]
 congr 1
 refine List.map_congr_left fun v hv => ?_
 have := List.mem_range.1 hv
 show j.testBit (V + 1 - 1 - (v + 1)) = _
 congr 1; omega
theorem jen : ∀ (V j i : Nat), zma (bl V j) (bl V i) = decide (j % 2 ^ V < i % 2 ^ V)
 | 0, j, i => by
  simp [bl, zma, Nat.mod_one]
 | V + 1, j, i => by
  rw [jem, jem]
  unfold zma
  rw [jen V j i, Nat.mod_pow_succ, Nat.mod_pow_succ, ← Nat.toNat_testBit, ← Nat.toNat_testBit]
  have h1 := Nat.mod_lt j (Nat.two_pow_pos V)
  have h2 := Nat.mod_lt i (Nat.two_pow_pos V)
  cases hj : j.testBit V <;> cases hi : i.testBit V
  ·simp
  ·simp; omega
  ·simp; omega
  ·simp
theorem jeo {V j : Nat} (hV : V ≤ 60) (hj : j < 2 ^ V) : zg6 V (j : Int) = bl V j := by
 unfold zg6 bl
 refine List.map_congr_left fun v hv => ?_
 have := List.mem_range.1 hv
 rw [show ((V : Int) - 1 - v) = ((V - 1 - v : Nat) : Int) by omega, zku (jrp hV hj) (by omega)]
theorem jgy {V j i : Nat} (hV : V ≤ 60) (hj : j < 2 ^ V) (hi : i < 2 ^ V) (h : zma (zg6 V (j : Int)) (zg6 V (i : Int)) = true) : j < i := by
 rw [jeo hV hj, jeo hV hi, jen, Nat.mod_eq_of_lt hj, Nat.mod_eq_of_lt hi] at h
 simpa using h
theorem jl1 {V : Nat} (hV : V ≤ 60) {g : List Bool} (hg : g.length = V) : ∃ j : Nat, j < 2 ^ V ∧ g = zg6 V (j : Int) := by
 obtain ⟨j, hj, h⟩ := zt5 (atB g) V
 refine ⟨j, hj, ?_⟩
 rw [jeo hV hj]
 refine znc (by simp [bl, hg]) fun v hv => ?_
 have hv' : v < V := by omega
 have := h v hv'
 unfold asn atB at this
 rw [decide_eq_true hv', decide_eq_true hv, Bool.true_and, Bool.true_and] at this
 rw [← this]
 unfold bl
 rw [zcb hv']
theorem zt8 (x : RawN) (hx : RawOk x) (hi : x.ins.length ≤ maxLen) (hg : x.gates.length ≤ maxLen) (ho : x.out.length ≤ maxLen) (k0 k1 k2 k3 : Nat) (h0 : k0 < 256) (h1 : k1 < 256) (h2 : k2 < 256) (h3 : k3 < 256) (l : List Bool) (hl : l.length ≤ maxLen) : zbd Try.prog 4 [.agg (zb5 x), .agg [u8D k0, u8D k1, u8D k2, u8D k3], boolsD l] (.d (oD true)) := by
 have hl0 := hl
 unfold maxLen at hl
 refine zbg (fn := Try.f4) (by kernel_rfl) Try.func4 rfl (Nat.le_of_ble_eq_true rfl) fun c hc hp => ?_
 refine zbh (τ' := frL [(0, .d (.agg (zb5 x))), (1, .d (.agg [u8D k0, u8D k1, u8D k2, u8D k3])), (2, .d (boolsD l))]) (by repeat (first | exact zam _ | refine zai ?_ (by first | rfl | (simp [r_f, zbi, zbj, zab, zaa, zae]; done) | simp [r_f, zbi, zbj, zab, zaa, zae, *]))) ?_
 refine zac hp zak hc rfl fun K1 hK1 => ?_
 simp -dsimp -implicitDefEqProofs (disch := first | assumption | omega | (simp only [r_z, zbi, zbj, zab, zaa, zae] <;> omega) | decide) only [r_r, ↓reduceIte, Nat.reduceEqDiff, Nat.reduceAdd, D.fix, Int.reduceToNat, Nat.reduceMul, Nat.reduceBNe, Nat.reduceBEq, zb5, u8D, zaw, zax, zaf, zag, shD, zck, fpC, fpM, zc7]
 refine hK1 _ _ ?_
 refine zac hp zak hc rfl fun K2 hK2 => ?_
 simp -dsimp -implicitDefEqProofs (disch := first | assumption | omega | (simp only [r_z, zbi, zbj, zab, zaa, zae] <;> omega) | decide) only [r_r, ↓reduceIte, Nat.reduceEqDiff, Nat.reduceAdd, D.fix, Int.reduceToNat, Nat.reduceMul, Nat.reduceBNe, Nat.reduceBEq, zb5, u8D, zaw, zax, zaf, zag, shD, zck, fpC, fpM]
 refine zb8 (zzb) rfl ?_
 simp -dsimp -implicitDefEqProofs (disch := first | assumption | omega | (simp only [r_z, zbi, zbj, zab, zaa, zae] <;> omega) | decide) only [r_r, ↓reduceIte, Nat.reduceEqDiff, Nat.reduceAdd, D.fix, Int.reduceToNat, Nat.reduceMul, Nat.reduceBNe, Nat.reduceBEq, zb5, u8D, zaw, zax, zaf, zag, shD, zck, fpC, fpM]
 refine hK2 _ _ ?_
 refine zao fun K3 hK3 => ?_
 refine zac hp zak hc rfl fun K4 hK4 => ?_
 simp -dsimp -implicitDefEqProofs (disch := first | assumption | omega | (simp only [r_z, zbi, zbj, zab, zaa, zae] <;> omega) | decide) only [r_r, ↓reduceIte, Nat.reduceEqDiff, Nat.reduceAdd, D.fix, Int.reduceToNat, Nat.reduceMul, Nat.reduceBNe, Nat.reduceBEq, zb5, u8D, zaw, zax, zaf, zag, shD, zck, fpC, fpM, zc7]
 refine hK4 _ _ ?_
 refine zaq rfl (fun ht => ?_) (fun ht => ?_)
 ·cases ht
 ·refine zay (hK3 _ _ ?_)
  refine zac hp zak hc rfl fun K5 hK5 => ?_
  simp -dsimp -implicitDefEqProofs (disch := first | assumption | omega | (simp only [r_z, zbi, zbj, zab, zaa, zae] <;> omega) | decide) only [r_r, ↓reduceIte, Nat.reduceEqDiff, Nat.reduceAdd, D.fix, Int.reduceToNat, Nat.reduceMul, Nat.reduceBNe, Nat.reduceBEq, zb5, u8D, zaw, zax, zaf, zag, shD, zck, fpC, fpM, zc7]
  refine zvm (jlu x hx hi hg ho) rfl fun r hr => ?_
  obtain ⟨a, ha, rfl⟩ := hr
  simp -dsimp -implicitDefEqProofs (disch := first | assumption | omega | (simp only [r_z, zbi, zbj, zab, zaa, zae] <;> omega) | decide) only [r_r, ↓reduceIte, Nat.reduceEqDiff, Nat.reduceAdd, D.fix, Int.reduceToNat, Nat.reduceMul, Nat.reduceBNe, Nat.reduceBEq, zb5, u8D, zaw, zax, zaf, zag, shD, zck, fpC, fpM, zc7]
  refine hK5 _ _ ?_
  refine zac hp zak hc rfl fun K6 hK6 => ?_
  simp -dsimp -implicitDefEqProofs (disch := first | assumption | omega | (simp only [r_z, zbi, zbj, zab, zaa, zae] <;> omega) | decide) only [r_r, ↓reduceIte, Nat.reduceEqDiff, Nat.reduceAdd, D.fix, Int.reduceToNat, Nat.reduceMul, Nat.reduceBNe, Nat.reduceBEq, zb5, u8D, zaw, zax, zaf, zag, shD, zck, fpC, fpM, zc7]
  refine zvm (jeg 60 a ha.q (by omega) (by have := ha.d0; have := ha.d1; omega) k0 k1 k2 k3 h0 h1 h2) rfl fun r hr => ?_
  obtain ⟨b, hb, rfl⟩ := hr
  simp -dsimp -implicitDefEqProofs (disch := first | assumption | omega | (simp only [r_z, zbi, zbj, zab, zaa, zae] <;> omega) | decide) only [r_r, ↓reduceIte, Nat.reduceEqDiff, Nat.reduceAdd, D.fix, Int.reduceToNat, Nat.reduceMul, Nat.reduceBNe, Nat.reduceBEq, zb5, u8D, zaw, zax, zaf, zag, shD, zck, fpC, fpM, zc7]
  refine hK6 _ _ ?_
  refine zac hp zak hc rfl fun K7 hK7 => ?_
  simp -dsimp -implicitDefEqProofs (disch := first | assumption | omega | (simp only [r_z, zbi, zbj, zab, zaa, zae] <;> omega) | decide) only [r_r, ↓reduceIte, Nat.reduceEqDiff, Nat.reduceAdd, D.fix, Int.reduceToNat, Nat.reduceMul, Nat.reduceBNe, Nat.reduceBEq, zb5, u8D, zaw, zax, zaf, zag, shD, zck, fpC, fpM, zc7]
  refine zb8 (jlb k0 k1 k3 h0 h1 h3) rfl ?_
  simp -dsimp -implicitDefEqProofs (disch := first | assumption | omega | (simp only [r_z, zbi, zbj, zab, zaa, zae] <;> omega) | decide) only [r_r, ↓reduceIte, Nat.reduceEqDiff, Nat.reduceAdd, D.fix, Int.reduceToNat, Nat.reduceMul, Nat.reduceBNe, Nat.reduceBEq, zb5, u8D, zaw, zax, zaf, zag, shD, zck, fpC, fpM, zc7]
  obtain ⟨sh, hshd⟩ : ∃ sh, sh = zs2 5 [k0, k1, k3] := ⟨_, rfl⟩
  have hsh : ShOk sh := by rw [hshd]; exact jq7 _ rfl _
  have hsv : ∀ n : Nat, zc3 n sh ≤ n + 5 := fun n => by rw [hshd]; exact jgq _ _
  rw [← hshd]
  have ga := ha.g1
  have gb := hb.q.g1
  have ia := ha.i2
  have bi := hb.ins
  have pab : Pair a b := hb.pair ha.q (by omega) (by omega)
  obtain ⟨i1, l1, e1, S1, C1⟩ := pab.compare hsh (hsv _)
  have bil : b.ins.length = a.ins.length := by rw [bi]
  obtain ⟨V, hV⟩ : ∃ V, V = zc3 a.ins.length sh := ⟨_, rfl⟩
  have hV14 : V ≤ 14 := by have := hsv a.ins.length; omega
  have hvc := jqz a sh hsh (by omega)
  rw [← hV] at hvc
  unfold jt1 at S1
  rw [← hV] at S1
  have hoa := fun (g : List Bool) (hg : g.length ≤ maxLen) => zsy a sh g (by omega) (by omega) ha.g2 ha.d2 (by have := ha.d1; omega) hsh hg
  have hob := fun (g : List Bool) (hg : g.length ≤ maxLen) => zsy b sh g (by omega) (by omega) hb.q.g2 hb.q.d2 (by have := hb.q.d1; omega) hsh hg
  have hsb := fun (g : List Bool) => jdu (zqr a sh g) (zqr b sh g) (by rw [jgw]; have := ha.d1; unfold maxLen; omega)
  refine hK7 _ _ ?_
  refine zb3 hp (τ' := frL [(2, .d (boolsD l)), (7, .d (oD true)), (8, .d (fpC a)), (9, .d (fpC b)), (10, .d (shD sh))]) (H' := []) ?_ ?_
  ·refine Rt.trans (Rt.fz (id := 2) (l := zax a) rfl) ?_
   refine Rt.trans (Rt.fz (id := 3) (l := zax b) rfl) ?_
   refine Rt.trans (Rt.gc (keep := []) (by decide) (by decide) (by simp [fzH, gcH])) ?_
   refine Rt.end (by repeat (first | exact zam _ | refine zai ?_ (by first | rfl | (simp [r_f, zbi, zbj, zab, zaa, zae]; done) | simp [r_f, zbi, zbj, zab, zaa, zae, *]))) ?_
   first | rfl | (simp only [r_g, Nat.reduceAdd, ↓reduceIte, Nat.reduceEqDiff, zb5, u8D, zaw, zax, zaf, zag, shD, zck, fpC, fpM]; first | done | rfl)
  refine zac hp zak hc rfl fun K8 hK8 => ?_
  simp -dsimp -implicitDefEqProofs (disch := first | assumption | omega | (simp only [r_z, zbi, zbj, zab, zaa, zae] <;> omega) | decide) only [r_r, ↓reduceIte, Nat.reduceEqDiff, Nat.reduceAdd, D.fix, Int.reduceToNat, Nat.reduceMul, Nat.reduceBNe, Nat.reduceBEq, zb5, u8D, zaw, zax, zaf, zag, shD, zck, fpC, fpM, zc7]
  refine zb8 (hvc) rfl ?_
  simp -dsimp -implicitDefEqProofs (disch := first | assumption | omega | (simp only [r_z, zbi, zbj, zab, zaa, zae] <;> omega) | decide) only [r_r, ↓reduceIte, Nat.reduceEqDiff, Nat.reduceAdd, D.fix, Int.reduceToNat, Nat.reduceMul, Nat.reduceBNe, Nat.reduceBEq, zb5, u8D, zaw, zax, zaf, zag, shD, zck, fpC, fpM, zc7]
  refine hK8 _ _ ?_
  refine zac hp zak hc rfl fun K9 hK9 => ?_
  simp -dsimp -implicitDefEqProofs (disch := first | assumption | omega | (simp only [r_z, zbi, zbj, zab, zaa, zae] <;> omega) | decide) only [r_r, ↓reduceIte, Nat.reduceEqDiff, Nat.reduceAdd, D.fix, Int.reduceToNat, Nat.reduceMul, Nat.reduceBNe, Nat.reduceBEq, zb5, u8D, zaw, zax, zaf, zag, shD, zck, fpC, fpM, zc7]
  refine zb8 (zls a b sh i1 l1 e1 C1) rfl ?_
  simp -dsimp -implicitDefEqProofs (disch := first | assumption | omega | (simp only [r_z, zbi, zbj, zab, zaa, zae] <;> omega) | decide) only [r_r, ↓reduceIte, Nat.reduceEqDiff, Nat.reduceAdd, D.fix, Int.reduceToNat, Nat.reduceMul, Nat.reduceBNe, Nat.reduceBEq, zb5, u8D, zaw, zax, zaf, zag, shD, zck, fpC, fpM, zc7]
  refine hK9 _ _ ?_
  refine zao fun K10 hK10 => ?_
  refine zb3 hp (τ' := frL [(2, .d (boolsD l)), (7, .d (oD true)), (8, .d (fpC a)), (9, .d (fpC b)), (10, .d (shD sh)), (11, .d (iD V)), (12, .d (fpM i1 l1 e1))]) (H' := []) ?_ ?_
  ·refine Rt.trans (Rt.fz (id := 0) (l := [oD i1, boolsD l1, iD e1]) rfl) ?_
   refine Rt.trans (Rt.gc (keep := []) (by decide) (by decide) (by simp [fzH, gcH])) ?_
   refine Rt.end (by repeat (first | exact zam _ | refine zai ?_ (by first | rfl | (simp [r_f, zbi, zbj, zab, zaa, zae]; done) | simp [r_f, zbi, zbj, zab, zaa, zae, *]))) ?_
   first | rfl | (simp only [r_g, Nat.reduceAdd, ↓reduceIte, Nat.reduceEqDiff, zb5, u8D, zaw, zax, zaf, zag, shD, zck, fpC, fpM]; first | done | rfl)
  refine zac hp zak hc rfl fun K11 hK11 => ?_
  rcases S1 with ⟨rfl, rfl, rfl, _⟩ | ⟨rfl, rfl, rfl, hall⟩ | ⟨rfl, rfl, i, hi', hdi, hlo, rfl⟩
  ·have q8 : (((0 : Nat) : Int) == 0) = true := rfl
   simp -dsimp -implicitDefEqProofs (disch := first | assumption | omega | (simp only [r_z, zbi, zbj, zab, zaa, zae] <;> omega) | decide) only [r_r, ↓reduceIte, Nat.reduceEqDiff, Nat.reduceAdd, D.fix, Int.reduceToNat, Nat.reduceMul, Nat.reduceBNe, Nat.reduceBEq, zb5, u8D, zaw, zax, zaf, zag, shD, zck, fpC, fpM, beq_self_eq_true, Int.reduceBEq, Int.reduceBNe, bne_self_eq_false, zc7]
   refine hK11 _ _ ?_
   refine zaq rfl (fun ht => ?_) (fun ht => ?_)
   ·refine zac hp zak hc rfl fun K12 hK12 => ?_
    simp -dsimp -implicitDefEqProofs (disch := first | assumption | omega | (simp only [r_z, zbi, zbj, zab, zaa, zae] <;> omega) | decide) only [r_r, ↓reduceIte, Nat.reduceEqDiff, Nat.reduceAdd, D.fix, Int.reduceToNat, Nat.reduceMul, Nat.reduceBNe, Nat.reduceBEq, zb5, u8D, zaw, zax, zaf, zag, shD, zck, fpC, fpM, beq_self_eq_true, Int.reduceBEq, Int.reduceBNe, bne_self_eq_false, q8, zc7]
    refine hK12 _ _ ?_
    refine za4 ?_
    show closeA _ _ = _
    simp (disch := first | assumption | omega | (simp only [r_z, zbi, zbj, zab, zaa, zae] <;> omega) | decide) only [r_c, Nat.reduceAdd, D.fix, ↓reduceIte, Nat.reduceEqDiff, zb5, u8D, zaw, zax, zaf, zag, shD, zck, fpC, fpM]
   ·cases ht
  ·simp -dsimp -implicitDefEqProofs (disch := first | assumption | omega | (simp only [r_z, zbi, zbj, zab, zaa, zae] <;> omega) | decide) only [r_r, ↓reduceIte, Nat.reduceEqDiff, Nat.reduceAdd, D.fix, Int.reduceToNat, Nat.reduceMul, Nat.reduceBNe, Nat.reduceBEq, zb5, u8D, zaw, zax, zaf, zag, shD, zck, fpC, fpM, beq_self_eq_true, Int.reduceBEq, Int.reduceBNe, bne_self_eq_false, zc7]
   refine hK11 _ _ ?_
   refine zaq rfl (fun ht => ?_) (fun ht => ?_)
   ·cases ht
   ·refine zay (hK10 _ _ ?_)
    have hm : min (l.length : Int) (V : Int) = ((min l.length V : Nat) : Int) := by omega
    obtain ⟨u, hu⟩ : ∃ u, u = min l.length V := ⟨_, rfl⟩
    rw [← hu] at hm
    have hsub : (V : Int) - (u : Int) = ((V - u : Nat) : Int) := by omega
    obtain ⟨g, hgd⟩ : ∃ g, g = l.take u ++ List.replicate (V - u) false := ⟨_, rfl⟩
    have hgl : g.length = V := by rw [hgd, List.length_append, List.length_take, List.length_replicate]; omega
    have hgD : D.fs (List.take u (l.map oD) ++ List.replicate (V - u) (oD false)) (u + (V - u)) = boolsD g := by
     unfold boolsD
     rw [hgl, hgd, List.map_append, List.map_take, List.map_replicate, show u + (V - u) = V by omega]
    have hgm : g.length ≤ maxLen := by rw [hgl]; unfold maxLen; omega
    have hT : (List.take u (l.map oD) ++ List.replicate (V - u) (D.val (.bool false))).length = (u + (V - u)) * 1 := by rw [List.length_append, List.length_take, List.length_map, List.length_replicate]; omega
    refine zac hp zak hc rfl fun K13 hK13 => ?_
    simp -dsimp -implicitDefEqProofs (disch := first | assumption | omega | (simp only [r_z, zbi, zbj, zab, zaa, zae] <;> omega) | decide) only [r_r, ↓reduceIte, Nat.reduceEqDiff, Nat.reduceAdd, D.fix, Int.reduceToNat, Nat.reduceMul, Nat.reduceBNe, Nat.reduceBEq, zb5, u8D, zaw, zax, zaf, zag, shD, zck, fpC, fpM, hm, hsub, Option.isSome_some, zc7]
    refine hK13 _ _ ?_
    refine zb3 hp (τ' := frL [(7, .d (oD true)), (8, .d (fpC a)), (9, .d (fpC b)), (10, .d (shD sh)), (11, .d (iD V)), (12, .d (fpM true [] 0)), (13, .d (.fs (List.take u (l.map oD) ++ List.replicate (V - u) (oD false)) (u + (V - u))))]) (H' := []) ?_ ?_
    ·refine Rt.trans (Rt.fz (id := 2) rfl) ?_
     refine Rt.trans (Rt.slot 13 (zrw (zdh hT))) ?_
     refine Rt.trans (Rt.gc (keep := []) (by decide) (by decide) (by simp [fzH, gcH])) ?_
     refine Rt.end (by repeat (first | exact zam _ | refine zai ?_ (by first | rfl | (simp [r_f, zbi, zbj, zab, zaa, zae]; done) | simp [r_f, zbi, zbj, zab, zaa, zae, *]))) ?_
     first | rfl | (simp only [r_g, Nat.reduceAdd, ↓reduceIte, Nat.reduceEqDiff, zb5, u8D, zaw, zax, zaf, zag, shD, zck, fpC, fpM]; first | done | rfl)
    rw [hgD]
    refine zbp zak hc mixed rfl (q := 0) (by kernel_rfl) (by kernel_rfl) fun K14 hK14 => ?_
    simp -dsimp -implicitDefEqProofs (disch := first | assumption | omega | (simp only [r_z, zbi, zbj, zab, zaa, zae] <;> omega) | decide) only [r_r, ↓reduceIte, Nat.reduceEqDiff, Nat.reduceAdd, D.fix, Int.reduceToNat, Nat.reduceMul, Nat.reduceBNe, Nat.reduceBEq, zb5, u8D, zaw, zax, zaf, zag, shD, zck, fpC, fpM, zc7]
    refine zb8 (hoa g hgm) rfl ?_
    simp -dsimp -implicitDefEqProofs (disch := first | assumption | omega | (simp only [r_z, zbi, zbj, zab, zaa, zae] <;> omega) | decide) only [r_r, ↓reduceIte, Nat.reduceEqDiff, Nat.reduceAdd, D.fix, Int.reduceToNat, Nat.reduceMul, Nat.reduceBNe, Nat.reduceBEq, zb5, u8D, zaw, zax, zaf, zag, shD, zck, fpC, fpM, zc7]
    refine zb8 (hob g hgm) rfl ?_
    simp -dsimp -implicitDefEqProofs (disch := first | assumption | omega | (simp only [r_z, zbi, zbj, zab, zaa, zae] <;> omega) | decide) only [r_r, ↓reduceIte, Nat.reduceEqDiff, Nat.reduceAdd, D.fix, Int.reduceToNat, Nat.reduceMul, Nat.reduceBNe, Nat.reduceBEq, zb5, u8D, zaw, zax, zaf, zag, shD, zck, fpC, fpM, zc7]
    refine zb8 (hsb g) rfl ?_
    simp -dsimp -implicitDefEqProofs (disch := first | assumption | omega | (simp only [r_z, zbi, zbj, zab, zaa, zae] <;> omega) | decide) only [r_r, ↓reduceIte, Nat.reduceEqDiff, Nat.reduceAdd, D.fix, Int.reduceToNat, Nat.reduceMul, Nat.reduceBNe, Nat.reduceBEq, zb5, u8D, zaw, zax, zaf, zag, shD, zck, fpC, fpM, zc7]
    refine hK14 _ _ ?_
    refine zao fun K15 hK15 => ?_
    refine zac hp zak hc rfl fun K16 hK16 => ?_
    simp -dsimp -implicitDefEqProofs (disch := first | assumption | omega | (simp only [r_z, zbi, zbj, zab, zaa, zae] <;> omega) | decide) only [r_r, ↓reduceIte, Nat.reduceEqDiff, Nat.reduceAdd, D.fix, Int.reduceToNat, Nat.reduceMul, Nat.reduceBNe, Nat.reduceBEq, zb5, u8D, zaw, zax, zaf, zag, shD, zck, fpC, fpM, zc7]
    refine hK16 _ _ ?_
    refine zaq rfl (fun ht => ?_) (fun ht => ?_)
    ·have hsm : decide (zqr a sh g = zqr b sh g) = true := by have := hall g; unfold zqw at this; simpa using this
     have q8 : (((0 : Nat) : Int) == 0) = true := rfl
     rw [hsm]
     refine zac hp zak hc rfl fun K17 hK17 => ?_
     simp -dsimp -implicitDefEqProofs (disch := first | assumption | omega | (simp only [r_z, zbi, zbj, zab, zaa, zae] <;> omega) | decide) only [r_r, ↓reduceIte, Nat.reduceEqDiff, Nat.reduceAdd, D.fix, Int.reduceToNat, Nat.reduceMul, Nat.reduceBNe, Nat.reduceBEq, zb5, u8D, zaw, zax, zaf, zag, shD, zck, fpC, fpM, q8, zc7]
     refine hK17 _ _ ?_
     refine za4 ?_
     show closeA _ _ = _
     simp (disch := first | assumption | omega | (simp only [r_z, zbi, zbj, zab, zaa, zae] <;> omega) | decide) only [r_c, Nat.reduceAdd, D.fix, ↓reduceIte, Nat.reduceEqDiff, zb5, u8D, zaw, zax, zaf, zag, shD, zck, fpC, fpM]
    ·cases ht
  ·simp -dsimp -implicitDefEqProofs (disch := first | assumption | omega | (simp only [r_z, zbi, zbj, zab, zaa, zae] <;> omega) | decide) only [r_r, ↓reduceIte, Nat.reduceEqDiff, Nat.reduceAdd, D.fix, Int.reduceToNat, Nat.reduceMul, Nat.reduceBNe, Nat.reduceBEq, zb5, u8D, zaw, zax, zaf, zag, shD, zck, fpC, fpM, beq_self_eq_true, Int.reduceBEq, Int.reduceBNe, bne_self_eq_false, zc7]
   refine hK11 _ _ ?_
   refine zaq rfl (fun ht => ?_) (fun ht => ?_)
   ·cases ht
   ·refine zay (hK10 _ _ ?_)
    have hm : min (l.length : Int) (V : Int) = ((min l.length V : Nat) : Int) := by omega
    obtain ⟨u, hu⟩ : ∃ u, u = min l.length V := ⟨_, rfl⟩
    rw [← hu] at hm
    have hsub : (V : Int) - (u : Int) = ((V - u : Nat) : Int) := by omega
    obtain ⟨g, hgd⟩ : ∃ g, g = l.take u ++ List.replicate (V - u) false := ⟨_, rfl⟩
    have hgl : g.length = V := by rw [hgd, List.length_append, List.length_take, List.length_replicate]; omega
    have hgD : D.fs (List.take u (l.map oD) ++ List.replicate (V - u) (oD false)) (u + (V - u)) = boolsD g := by
     unfold boolsD
     rw [hgl, hgd, List.map_append, List.map_take, List.map_replicate, show u + (V - u) = V by omega]
    have hgm : g.length ≤ maxLen := by rw [hgl]; unfold maxLen; omega
    have hT : (List.take u (l.map oD) ++ List.replicate (V - u) (D.val (.bool false))).length = (u + (V - u)) * 1 := by rw [List.length_append, List.length_take, List.length_map, List.length_replicate]; omega
    refine zac hp zak hc rfl fun K18 hK18 => ?_
    simp -dsimp -implicitDefEqProofs (disch := first | assumption | omega | (simp only [r_z, zbi, zbj, zab, zaa, zae] <;> omega) | decide) only [r_r, ↓reduceIte, Nat.reduceEqDiff, Nat.reduceAdd, D.fix, Int.reduceToNat, Nat.reduceMul, Nat.reduceBNe, Nat.reduceBEq, zb5, u8D, zaw, zax, zaf, zag, shD, zck, fpC, fpM, hm, hsub, Option.isSome_some, zc7]
    refine hK18 _ _ ?_
    refine zb3 hp (τ' := frL [(7, .d (oD true)), (8, .d (fpC a)), (9, .d (fpC b)), (10, .d (shD sh)), (11, .d (iD V)), (12, .d (fpM false (zg6 V i) 0)), (13, .d (.fs (List.take u (l.map oD) ++ List.replicate (V - u) (oD false)) (u + (V - u))))]) (H' := []) ?_ ?_
    ·refine Rt.trans (Rt.fz (id := 2) rfl) ?_
     refine Rt.trans (Rt.slot 13 (zrw (zdh hT))) ?_
     refine Rt.trans (Rt.gc (keep := []) (by decide) (by decide) (by simp [fzH, gcH])) ?_
     refine Rt.end (by repeat (first | exact zam _ | refine zai ?_ (by first | rfl | (simp [r_f, zbi, zbj, zab, zaa, zae]; done) | simp [r_f, zbi, zbj, zab, zaa, zae, *]))) ?_
     first | rfl | (simp only [r_g, Nat.reduceAdd, ↓reduceIte, Nat.reduceEqDiff, zb5, u8D, zaw, zax, zaf, zag, shD, zck, fpC, fpM]; first | done | rfl)
    rw [hgD]
    refine zbp zak hc mixed rfl (q := 0) (by kernel_rfl) (by kernel_rfl) fun K19 hK19 => ?_
    simp -dsimp -implicitDefEqProofs (disch := first | assumption | omega | (simp only [r_z, zbi, zbj, zab, zaa, zae] <;> omega) | decide) only [r_r, ↓reduceIte, Nat.reduceEqDiff, Nat.reduceAdd, D.fix, Int.reduceToNat, Nat.reduceMul, Nat.reduceBNe, Nat.reduceBEq, zb5, u8D, zaw, zax, zaf, zag, shD, zck, fpC, fpM, zc7]
    refine zb8 (hoa g hgm) rfl ?_
    simp -dsimp -implicitDefEqProofs (disch := first | assumption | omega | (simp only [r_z, zbi, zbj, zab, zaa, zae] <;> omega) | decide) only [r_r, ↓reduceIte, Nat.reduceEqDiff, Nat.reduceAdd, D.fix, Int.reduceToNat, Nat.reduceMul, Nat.reduceBNe, Nat.reduceBEq, zb5, u8D, zaw, zax, zaf, zag, shD, zck, fpC, fpM, zc7]
    refine zb8 (hob g hgm) rfl ?_
    simp -dsimp -implicitDefEqProofs (disch := first | assumption | omega | (simp only [r_z, zbi, zbj, zab, zaa, zae] <;> omega) | decide) only [r_r, ↓reduceIte, Nat.reduceEqDiff, Nat.reduceAdd, D.fix, Int.reduceToNat, Nat.reduceMul, Nat.reduceBNe, Nat.reduceBEq, zb5, u8D, zaw, zax, zaf, zag, shD, zck, fpC, fpM, zc7]
    refine zb8 (hsb g) rfl ?_
    simp -dsimp -implicitDefEqProofs (disch := first | assumption | omega | (simp only [r_z, zbi, zbj, zab, zaa, zae] <;> omega) | decide) only [r_r, ↓reduceIte, Nat.reduceEqDiff, Nat.reduceAdd, D.fix, Int.reduceToNat, Nat.reduceMul, Nat.reduceBNe, Nat.reduceBEq, zb5, u8D, zaw, zax, zaf, zag, shD, zck, fpC, fpM, zc7]
    refine hK19 _ _ ?_
    refine zao fun K20 hK20 => ?_
    refine zac hp zak hc rfl fun K21 hK21 => ?_
    simp -dsimp -implicitDefEqProofs (disch := first | assumption | omega | (simp only [r_z, zbi, zbj, zab, zaa, zae] <;> omega) | decide) only [r_r, ↓reduceIte, Nat.reduceEqDiff, Nat.reduceAdd, D.fix, Int.reduceToNat, Nat.reduceMul, Nat.reduceBNe, Nat.reduceBEq, zb5, u8D, zaw, zax, zaf, zag, shD, zck, fpC, fpM, zc7]
    refine hK21 _ _ ?_
    refine zaq rfl (fun ht => ?_) (fun ht => ?_)
    ·cases ht
    ·refine zay (hK20 _ _ ?_)
     have hal : (zg6 V (i : Int)).length = V := by simp [zg6]
     have ham : (zg6 V (i : Int)).length ≤ maxLen := by rw [hal]; unfold maxLen; omega
     have hne : decide (zqr a sh (zg6 V (i : Int)) = zqr b sh (zg6 V (i : Int))) = false := by unfold zqw at hdi; simpa using hdi
     have hsL := hsb (zg6 V (i : Int))
     rw [hne] at hsL
     have q5 : (((zg6 V (i : Int)).length : Int) == (V : Int)) = true := by rw [hal]; simp
     have hle := jrl g (zg6 V (i : Int)) (by rw [hal, hgl]) hgm
     refine zbp zak hc mixed rfl (q := 0) (by kernel_rfl) (by kernel_rfl) fun K22 hK22 => ?_
     by_cases hs : zqr a sh g = zqr b sh g
     ·have q6 : decide (zqr a sh g = zqr b sh g) = true := decide_eq_true hs
      simp -dsimp -implicitDefEqProofs (disch := first | assumption | omega | (simp only [r_z, zbi, zbj, zab, zaa, zae] <;> omega) | decide) only [r_r, ↓reduceIte, Nat.reduceEqDiff, Nat.reduceAdd, D.fix, Int.reduceToNat, Nat.reduceMul, Nat.reduceBNe, Nat.reduceBEq, zb5, u8D, zaw, zax, zaf, zag, shD, zck, fpC, fpM, q5, q6, zc7]
      refine zb8 (hoa (zg6 V i) ham) rfl ?_
      simp -dsimp -implicitDefEqProofs (disch := first | assumption | omega | (simp only [r_z, zbi, zbj, zab, zaa, zae] <;> omega) | decide) only [r_r, ↓reduceIte, Nat.reduceEqDiff, Nat.reduceAdd, D.fix, Int.reduceToNat, Nat.reduceMul, Nat.reduceBNe, Nat.reduceBEq, zb5, u8D, zaw, zax, zaf, zag, shD, zck, fpC, fpM, q5, q6, zc7]
      refine zb8 (hob (zg6 V i) ham) rfl ?_
      simp -dsimp -implicitDefEqProofs (disch := first | assumption | omega | (simp only [r_z, zbi, zbj, zab, zaa, zae] <;> omega) | decide) only [r_r, ↓reduceIte, Nat.reduceEqDiff, Nat.reduceAdd, D.fix, Int.reduceToNat, Nat.reduceMul, Nat.reduceBNe, Nat.reduceBEq, zb5, u8D, zaw, zax, zaf, zag, shD, zck, fpC, fpM, q5, q6, zc7]
      refine zb8 (hsL) rfl ?_
      simp -dsimp -implicitDefEqProofs (disch := first | assumption | omega | (simp only [r_z, zbi, zbj, zab, zaa, zae] <;> omega) | decide) only [r_r, ↓reduceIte, Nat.reduceEqDiff, Nat.reduceAdd, D.fix, Int.reduceToNat, Nat.reduceMul, Nat.reduceBNe, Nat.reduceBEq, zb5, u8D, zaw, zax, zaf, zag, shD, zck, fpC, fpM, q5, q6, zc7]
      refine hK22 _ _ ?_
      refine za4 ?_
      show closeA _ _ = _
      simp (disch := first | assumption | omega | (simp only [r_z, zbi, zbj, zab, zaa, zae] <;> omega) | decide) only [r_c, Nat.reduceAdd, D.fix, ↓reduceIte, Nat.reduceEqDiff, zb5, u8D, zaw, zax, zaf, zag, shD, zck, fpC, fpM]
     ·have q6 : decide (zqr a sh g = zqr b sh g) = false := decide_eq_false hs
      have hl0 : zma g (zg6 V (i : Int)) = false := by
       cases hc : zma g (zg6 V (i : Int)) with
       | false => rfl
       | true =>
        obtain ⟨j, hj, hgj⟩ := jl1 (V := V) (by omega) hgl
        rw [hgj] at hc
        have hji := jgy (by omega) hj hi' hc
        have := hlo j hji
        unfold zqw at this
        rw [← hgj] at this
        exact absurd (by simpa using this) hs
      rw [hl0] at hle
      simp -dsimp -implicitDefEqProofs (disch := first | assumption | omega | (simp only [r_z, zbi, zbj, zab, zaa, zae] <;> omega) | decide) only [r_r, ↓reduceIte, Nat.reduceEqDiff, Nat.reduceAdd, D.fix, Int.reduceToNat, Nat.reduceMul, Nat.reduceBNe, Nat.reduceBEq, zb5, u8D, zaw, zax, zaf, zag, shD, zck, fpC, fpM, q5, q6, zc7]
      refine zb8 (hoa (zg6 V i) ham) rfl ?_
      simp -dsimp -implicitDefEqProofs (disch := first | assumption | omega | (simp only [r_z, zbi, zbj, zab, zaa, zae] <;> omega) | decide) only [r_r, ↓reduceIte, Nat.reduceEqDiff, Nat.reduceAdd, D.fix, Int.reduceToNat, Nat.reduceMul, Nat.reduceBNe, Nat.reduceBEq, zb5, u8D, zaw, zax, zaf, zag, shD, zck, fpC, fpM, q5, q6, zc7]
      refine zb8 (hob (zg6 V i) ham) rfl ?_
      simp -dsimp -implicitDefEqProofs (disch := first | assumption | omega | (simp only [r_z, zbi, zbj, zab, zaa, zae] <;> omega) | decide) only [r_r, ↓reduceIte, Nat.reduceEqDiff, Nat.reduceAdd, D.fix, Int.reduceToNat, Nat.reduceMul, Nat.reduceBNe, Nat.reduceBEq, zb5, u8D, zaw, zax, zaf, zag, shD, zck, fpC, fpM, q5, q6, zc7]
      refine zb8 (hsL) rfl ?_
      simp -dsimp -implicitDefEqProofs (disch := first | assumption | omega | (simp only [r_z, zbi, zbj, zab, zaa, zae] <;> omega) | decide) only [r_r, ↓reduceIte, Nat.reduceEqDiff, Nat.reduceAdd, D.fix, Int.reduceToNat, Nat.reduceMul, Nat.reduceBNe, Nat.reduceBEq, zb5, u8D, zaw, zax, zaf, zag, shD, zck, fpC, fpM, q5, q6, zc7]
      refine zb8 (hle) rfl ?_
      simp -dsimp -implicitDefEqProofs (disch := first | assumption | omega | (simp only [r_z, zbi, zbj, zab, zaa, zae] <;> omega) | decide) only [r_r, ↓reduceIte, Nat.reduceEqDiff, Nat.reduceAdd, D.fix, Int.reduceToNat, Nat.reduceMul, Nat.reduceBNe, Nat.reduceBEq, zb5, u8D, zaw, zax, zaf, zag, shD, zck, fpC, fpM, q5, q6, zc7]
      refine hK22 _ _ ?_
      refine za4 ?_
      show closeA _ _ = _
      simp (disch := first | assumption | omega | (simp only [r_z, zbi, zbj, zab, zaa, zae] <;> omega) | decide) only [r_c, Nat.reduceAdd, D.fix, ↓reduceIte, Nat.reduceEqDiff, zb5, u8D, zaw, zax, zaf, zag, shD, zck, fpC, fpM]
end Go.Proofs.Ytignimmnnccblaa
