/- The law NetsimMatchesReference, walked. -/
import Derived.Test.YtapjobndmmkanaaQr
import Derived.Test.YtapjobndmmkanaaXg
import Derived.Test.YtapjobndmmkanaaOj
set_option linter.unusedVariables false
set_option linter.unusedSimpArgs false
set_option maxRecDepth 100000
set_option maxHeartbeats 4000000
namespace Go.Proofs.Ytapjobndmmkanaa
open Go Go.RowKit
theorem jkt : ((((((type_of% @jin) ∧ ((type_of% @jio) ∧ (type_of% @jip))) ∧ (((type_of% @jtp) ∧ (type_of% @jtu)) ∧ ((type_of% @jtv) ∧ (type_of% @jtw)))) ∧ ((((type_of% @jtx) ∧ (type_of% @zev)) ∧ ((type_of% @zew) ∧ (type_of% @zuk))) ∧ (((type_of% @zhw) ∧ (type_of% @zjb)) ∧ ((type_of% @zuo) ∧ (type_of% @zfb))))) ∧ (((((type_of% @zfp) ∧ (type_of% @zfq)) ∧ ((type_of% @zgz) ∧ (type_of% @zsf))) ∧ (((type_of% @zpl) ∧ (type_of% @zpm)) ∧ ((type_of% @zib) ∧ (type_of% @jez)))) ∧ ((((type_of% @jtt) ∧ (type_of% @jtq)) ∧ ((type_of% @jtr) ∧ (type_of% @jts))) ∧ (((type_of% @zjd) ∧ (type_of% @zdu)) ∧ ((type_of% @zdv) ∧ (type_of% @jty)))))) ∧ (((((type_of% @jtz) ∧ ((type_of% @zjc) ∧ (type_of% @jix))) ∧ (((type_of% @zsi) ∧ (type_of% @zsk)) ∧ ((type_of% @jt0) ∧ (type_of% @jt1)))) ∧ ((((type_of% @jt2) ∧ (type_of% @jiw)) ∧ ((type_of% @jey) ∧ (type_of% @zsd))) ∧ (((type_of% @zgo) ∧ (type_of% @zum)) ∧ ((type_of% @zun) ∧ (type_of% @zht))))) ∧ (((((type_of% @zhu) ∧ (type_of% @zkr)) ∧ ((type_of% @zks) ∧ (type_of% @zse))) ∧ (((type_of% @zh8) ∧ (type_of% @jir)) ∧ ((type_of% @jis) ∧ (type_of% @zmn)))) ∧ ((((type_of% @zmo) ∧ (type_of% @zh9)) ∧ ((type_of% @zsh) ∧ (type_of% @zsj))) ∧ (((type_of% @jt6) ∧ (type_of% @je5)) ∧ ((type_of% @je7) ∧ (type_of% @jt5))))))) := ⟨⟨⟨⟨⟨@jin, ⟨@jio, @jip⟩⟩, ⟨⟨@jtp, @jtu⟩, ⟨@jtv, @jtw⟩⟩⟩, ⟨⟨⟨@jtx, @zev⟩, ⟨@zew, @zuk⟩⟩, ⟨⟨@zhw, @zjb⟩, ⟨@zuo, @zfb⟩⟩⟩⟩, ⟨⟨⟨⟨@zfp, @zfq⟩, ⟨@zgz, @zsf⟩⟩, ⟨⟨@zpl, @zpm⟩, ⟨@zib, @jez⟩⟩⟩, ⟨⟨⟨@jtt, @jtq⟩, ⟨@jtr, @jts⟩⟩, ⟨⟨@zjd, @zdu⟩, ⟨@zdv, @jty⟩⟩⟩⟩⟩, ⟨⟨⟨⟨@jtz, ⟨@zjc, @jix⟩⟩, ⟨⟨@zsi, @zsk⟩, ⟨@jt0, @jt1⟩⟩⟩, ⟨⟨⟨@jt2, @jiw⟩, ⟨@jey, @zsd⟩⟩, ⟨⟨@zgo, @zum⟩, ⟨@zun, @zht⟩⟩⟩⟩, ⟨⟨⟨⟨@zhu, @zkr⟩, ⟨@zks, @zse⟩⟩, ⟨⟨@zh8, @jir⟩, ⟨@jis, @zmn⟩⟩⟩, ⟨⟨⟨@zmo, @zh9⟩, ⟨@zsh, @zsj⟩⟩, ⟨⟨@jt6, @je5⟩, ⟨@je7, @jt5⟩⟩⟩⟩⟩⟩
theorem jx2 {z : Odd} (hlit : zn8 z z.s.mems.length ≤ 200) : StSm z.s z.heads z.rooms := by
 have hl0 := zlv z (d := z.s.mems.length) (k := 0)
 rw [Nat.zero_add, zn8] at hl0
 exact ⟨by omega, by omega, fun l hl => by
  obtain ⟨i, hi, rfl⟩ := List.getElem_of_mem hl
  have := jfs (z := z) hi
  rw [zek hi] at this
  omega, by omega, by omega⟩
theorem zeh {p q : Prop} (hq : q) (h : p = q := by
 conv => lhs; simp -dsimp -implicitDefEqProofs (disch := first | assumption | omega | (simp only [r_z, zae, zab, zap] <;> omega) | decide) only [r_r, ↓reduceIte, Nat.reduceEqDiff, Nat.reduceAdd, D.fix, Int.reduceToNat, Nat.reduceMul, Nat.reduceBNe, Nat.reduceBEq, zkc, zp2, za7, eD, zby, zb1, zao, zaj, inC, zcg, efV, List.append_eq, List.cons_append, List.nil_append, jkt]) : p := h.mpr hq
theorem jho {p q : Prop} (hq : q) (h : p = q := by
 conv => lhs; simp -dsimp -implicitDefEqProofs (disch := first | assumption | omega | (simp only [r_z, zae, zab, zap] <;> omega) | decide) only [r_r, ↓reduceIte, Nat.reduceEqDiff, Nat.reduceAdd, D.fix, Int.reduceToNat, Nat.reduceMul, Nat.reduceBNe, Nat.reduceBEq, zkc, zp2, za7, eD, zby, zb1, zao, zaj, inC, zcg, efV, List.append_eq, List.cons_append, List.nil_append]) : p := h.mpr hq
theorem jqx {p q : Prop} (hq : q) (h : p = q := by
 conv => lhs; simp -dsimp -implicitDefEqProofs (disch := first | assumption | omega | (simp only [r_z, zae, zab, zap] <;> omega) | decide) only [r_r, ↓reduceIte, Nat.reduceEqDiff, Nat.reduceAdd, D.fix, Int.reduceToNat, Nat.reduceMul, Nat.reduceBNe, Nat.reduceBEq, r_w, zkc, zp2, za7, eD, zby, zb1, zao, zaj, inC, zcg, efV, List.append_eq, List.cons_append, List.nil_append, jkt]) : p := h.mpr hq
theorem ycf {m : List Nat} {τ τ' : Fr} {H H' : zad} (h2 : H = H') (h : zgu τ τ' := by
 repeat (first | exact zar _ | refine zam ?_ (by first | rfl | (simp [r_f, zae, zab, zap, jb8, zb1, zao, zaj, intsD]; done) | simp [r_f, zae, zab, zap, jb8, zb1, zao, zaj, intsD, *]))) : Rt m τ H τ' H' := Rt.end h h2
theorem jx3 {p q r : Prop} (e : r) (hq : q) (h : r → p = q := by
 intro hY
 conv => lhs; simp -dsimp -implicitDefEqProofs (disch := first | assumption | omega | (simp only [r_z, zae, zab, zap] <;> omega) | decide) only [r_r, ↓reduceIte, Nat.reduceEqDiff, Nat.reduceAdd, D.fix, Int.reduceToNat, Nat.reduceMul, Nat.reduceBNe, Nat.reduceBEq, zkc, zp2, za7, eD, zby, zb1, zao, zaj, inC, zcg, efV, List.append_eq, List.cons_append, List.nil_append, jkt, hY]) : p := (h e).mpr hq
theorem ycg {p : Prop} (h : p := by
 simp (disch := first | assumption | omega | (simp only [r_z, zae, zab, zap] <;> omega) | decide) only [r_c, Nat.reduceAdd, D.fix, ↓reduceIte, Nat.reduceEqDiff, zkc, zp2, za7, eD, zby, zb1, zao, zaj, inC, zcg, efV, List.append_eq, List.cons_append, List.nil_append]) : p := h
theorem jku (b : List Int) (hb0 : zfx b) (hl0 : b.length ≤ maxLen) (x : RawN) (hx : RawOk x) (z : Odd) (hzv : zfx z.v) (ha : -128 ≤ z.e0 ∧ z.e0 < 128) (he1 : -128 ≤ z.e1 ∧ z.e1 < 128) (hb : zn8 z z.s.mems.length ≤ 1000000000) : zaz Try.prog 3 [.agg [bytesD b], .agg (zkc x), .agg (zp2 z)] (.d (oD true)) := by
 refine zaw (fn := Try.f3) (by kernel_rfl) Try.func3 rfl (Nat.le_of_ble_eq_true rfl) fun c hc hp => ?_
 refine za0 (τ' := frL [(0, .d (.agg [bytesD b])), (1, .d (.agg (zkc x))), (2, .d (.agg (zp2 z)))]) (by repeat (first | exact zar _ | refine zam ?_ (by first | rfl | (simp [r_f, zae, zab, zap, jb8, zb1, zao, zaj, intsD]; done) | simp [r_f, zae, zab, zap, jb8, zb1, zao, zaj, intsD, *]))) ?_
 refine szq hp (fun _ hZ => zeh hZ) ?_
 refine zag hp zai hc rfl fun K2 hK2 => ?_
 refine jho ?_
 refine za1 (zvk) rfl ?_
 refine jho ?_
 refine hK2 _ _ ?_
 refine zaa fun K3 hK3 => ?_
 refine szq hp (fun _ hZ => zeh hZ) ?_
 refine szf ?_
 refine zaf (hK3 _ _ ?_)
 refine zaa fun K5 hK5 => ?_
 refine zag hp zai hc rfl fun K6 hK6 => ?_
 refine zeh ?_
 refine za1 (jjo z hb) rfl ?_
 refine zeh ?_
 refine hK6 _ _ ?_
 refine zah rfl (fun ht => ?_) (fun ht => ?_)
 ·refine szq hp (fun _ hZ => jho hZ) ?_
  refine zal ?_
  show closeA _ _ = _
  exact ycg
 ·have hsm := jx2 (z := z) (by simpa using ht)
  refine zaf (hK5 _ _ ?_)
  refine zcj zai hp hc za8 rfl [(0, []), (2, []), (1, [2]), (3, []), (4, []), (5, [])] [[], [0], [], [0, 1, 2], [0, 1, 2, 3], [0, 1, 2, 3, 4]] 1 (by kernel_rfl) fun K8 hK8 => ?_
  refine jqx ?_
  refine zyr (jqv b hb0 hl0) rfl fun r hr => ?_
  obtain ⟨p, hp', rfl⟩ := hr
  refine jqx ?_
  refine zyr (ju2 x hx) rfl fun r hr => ?_
  obtain ⟨n2, hn2, rfl⟩ := hr
  refine jqx ?_
  refine hK8 _ _ ?_
  refine zaa fun K9 hK9 => ?_
  obtain ⟨l, hl⟩ : ∃ l, l = [jrc p, n2] := ⟨_, rfl⟩
  have hll : l.length = 2 := by rw [hl]; rfl
  have hlo : ∀ k, k < 2 → RefOk (nth l k) z := fun k hk => by
   rw [hl]
   rcases (show k = 0 ∨ k = 1 by omega) with rfl | rfl
   ·exact jn5 (yaq hp') hzv ha he1 hsm
   ·exact jn5 hn2.w hzv ha he1 hsm
  refine szq hp (fun _ hZ => jho hZ) ?_
  refine zac ?_
  refine zan hp (fun τ' H' mm => ∃ (k : Nat), (k ≤ 2) ∧ mm = 2 - k ∧ H' = [.cells (avs (zp2 z))] ∧ τ' = frL [(5, .op 0 0), (7, .d (oD true)), (8, .d (jb8 l)), (9, .d (iD k))]) (2) ?_ ⟨0, by omega, rfl, rfl, rfl⟩ ?_
  ·refine Rt.trans (Rt.gc (keep := [2]) (by decide) (by decide) (by simp [fzH, gcH])) ?_
   refine ycf ?_
   simp only [r_g, Nat.reduceAdd, ↓reduceIte, Nat.reduceEqDiff, zkc, zp2, za7, eD, zby, zb1, zao, zaj, inC, zcg, efV, List.append_eq, List.cons_append, List.nil_append]; subst hl; rfl
  rintro τ' H' mm ⟨k, hk, rfl, rfl, rfl⟩
  clear hl
  unfold jb8
  refine zaa fun K11 hK11 => ?_
  refine szq hp (fun _ hZ => zeh hZ) ?_
  refine zah rfl (fun ht => ?_) (fun ht => ?_)
  ·have hlt : k < 2 := by simp at ht; omega
   have hlt2 : k < l.length := by omega
   obtain ⟨h1, h2, h3, h4, h5, h6, h7, h8, h9, ha1, ha2, ha3, ha4, ha5, ha6, ha7, ha8⟩ := hlo k hlt
   have hw1 : IntKind.i64.wrap z.e0 = z.e0 := zua (by omega) (by omega)
   have hw2 : IntKind.i64.wrap z.e1 = z.e1 := zua (by omega) (by omega)
   unfold inC at h5 ha2
   unfold efV at h8
   refine zaf (hK11 _ _ ?_)
   refine zaa fun K13 hK13 => ?_
   refine zac ?_
   refine zag hp zai hc rfl fun K14 hK14 => ?_
   simp -dsimp -implicitDefEqProofs (disch := first | assumption | omega | (simp only [r_z, zae, zab, zap] <;> omega) | decide) only [r_r, ↓reduceIte, Nat.reduceEqDiff, Nat.reduceAdd, D.fix, Int.reduceToNat, Nat.reduceMul, Nat.reduceBNe, Nat.reduceBEq, zkc, zp2, za7, eD, zby, zb1, zao, zaj, inC, zcg, efV, List.append_eq, List.cons_append, List.nil_append, jqw, jn4, jkt]
   refine hK14 _ _ ?_
   refine zag hp zai hc rfl fun K15 hK15 => ?_
   refine zeh ?_
   refine za1 (ha7) rfl ?_
   refine zeh ?_
   refine hK15 _ _ ?_
   refine zas zai hc za8 rfl (q := 1) (by kernel_rfl) (by kernel_rfl) fun K16 hK16 => ?_
   refine jx3 (sza hw1 hw2) ?_
   refine za1 (ha8) rfl ?_
   refine jx3 (sza hw1 hw2) ?_
   refine hK16 _ _ ?_
   refine szq hp (fun _ hZ => zeh hZ) ?_
   refine zaa fun K18 hK18 => ?_
   refine zas zai hc za8 rfl (q := 0) (by kernel_rfl) (by kernel_rfl) fun K19 hK19 => ?_
   refine zeh ?_
   refine za1 (h1) rfl ?_
   refine zeh ?_
   refine za1 (h2) rfl ?_
   refine zeh ?_
   refine za1 (h3) rfl ?_
   refine zeh ?_
   refine za1 (h4) rfl ?_
   refine zeh ?_
   refine za1 (h5) rfl ?_
   refine zeh ?_
   refine za1 (h6) rfl ?_
   refine zeh ?_
   refine za1 (h7) rfl ?_
   refine zeh ?_
   refine za1 (h8) rfl ?_
   refine zeh ?_
   refine za1 (h9) rfl ?_
   refine zeh ?_
   refine za1 (ha1) rfl ?_
   refine zeh ?_
   refine za1 (ha2) rfl ?_
   refine zeh ?_
   refine za1 (ha3) rfl ?_
   refine zeh ?_
   refine hK19 _ _ ?_
   refine szf ?_
   refine zaf (hK18 _ _ ?_)
   refine zas zai hc za8 rfl (q := 0) (by kernel_rfl) (by kernel_rfl) fun K20 hK20 => ?_
   refine zeh ?_
   refine za1 (ha4 _) rfl ?_
   refine zeh ?_
   refine za1 (ha5 _) rfl ?_
   refine zeh ?_
   refine za1 (ha6 _) rfl ?_
   refine zeh ?_
   refine za1 (ha4 _) rfl ?_
   refine zeh ?_
   refine za1 (ha5 _) rfl ?_
   refine zeh ?_
   refine za1 (ha6 _) rfl ?_
   refine zeh ?_
   refine hK20 _ _ ?_
   refine szf ?_
   refine zaf (hK13 _ _ ?_)
   refine za5 hp zai hc rfl fun K21 hK21 => ?_
   refine zeh ?_
   refine hK21 _ _ ⟨_, _, _, ?_, ⟨k + 1, by omega, rfl, rfl, rfl⟩, ?_⟩
   ·first | omega | (simp only [List.length_cons]; omega) | (dsimp only; omega)
   ·refine Rt.trans (Rt.gc (keep := [0]) (by decide) (by decide) (by simp [fzH, gcH])) ?_
    refine ycf ?_
    first | rfl | (simp only [r_g, Nat.reduceAdd, ↓reduceIte, Nat.reduceEqDiff, zkc, zp2, za7, eD, zby, zb1, zao, zaj, inC, zcg, efV, List.append_eq, List.cons_append, List.nil_append]; first | done | rfl)
  ·refine zau (hK9 _ _ ?_)
   refine szq hp (fun _ hZ => jho hZ) ?_
   refine zal ?_
   show closeA _ _ = _
   exact ycg
end Go.Proofs.Ytapjobndmmkanaa
