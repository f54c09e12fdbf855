/- netsim: Effect. -/
import Derived.Test.YtapjobndmmkanaaQr
import Derived.Test.YtapjobndmmkanaaOf
set_option linter.unusedVariables false
set_option linter.unusedSimpArgs false
set_option maxRecDepth 100000
set_option maxHeartbeats 4000000
namespace Go.Proofs.Ytapjobndmmkanaa
open Go Go.RowKit
theorem zlu : ((((((type_of% @zmr) ∧ ((type_of% @zoy) ∧ (type_of% @zsl))) ∧ ((type_of% @jbc) ∧ ((type_of% @zib) ∧ (type_of% @zfp)))) ∧ (((type_of% @zfq) ∧ ((type_of% @zgz) ∧ (type_of% @zev))) ∧ ((type_of% @zew) ∧ ((type_of% @zje) ∧ (type_of% @zjf))))) ∧ ((((type_of% @zmt) ∧ ((type_of% @zkr) ∧ (type_of% @zks))) ∧ ((type_of% @zgy) ∧ ((type_of% @zq0) ∧ (type_of% @zq1)))) ∧ (((type_of% @zgp) ∧ ((type_of% @zic) ∧ (type_of% @jmq))) ∧ ((type_of% @zzc) ∧ ((type_of% @zzd) ∧ (type_of% @jmp)))))) ∧ (((((type_of% @zgq) ∧ ((type_of% @zfa) ∧ (type_of% @zdc))) ∧ ((type_of% @zdd) ∧ ((type_of% @zdh) ∧ (type_of% @zfo)))) ∧ (((type_of% @zli) ∧ ((type_of% @zgo) ∧ (type_of% @zht))) ∧ ((type_of% @zhu) ∧ ((type_of% @zkq) ∧ (type_of% @zul))))) ∧ ((((type_of% @zlj) ∧ ((type_of% @zhv) ∧ (type_of% @jbd))) ∧ ((type_of% @jbe) ∧ ((type_of% @jiz) ∧ (type_of% @jiy)))) ∧ (((type_of% @ji0) ∧ ((type_of% @zso) ∧ (type_of% @zsq))) ∧ (((type_of% @zlk) ∧ (type_of% @zmn)) ∧ ((type_of% @zmo) ∧ (type_of% @jiq))))))) := ⟨⟨⟨⟨⟨@zmr, ⟨@zoy, @zsl⟩⟩, ⟨@jbc, ⟨@zib, @zfp⟩⟩⟩, ⟨⟨@zfq, ⟨@zgz, @zev⟩⟩, ⟨@zew, ⟨@zje, @zjf⟩⟩⟩⟩, ⟨⟨⟨@zmt, ⟨@zkr, @zks⟩⟩, ⟨@zgy, ⟨@zq0, @zq1⟩⟩⟩, ⟨⟨@zgp, ⟨@zic, @jmq⟩⟩, ⟨@zzc, ⟨@zzd, @jmp⟩⟩⟩⟩⟩, ⟨⟨⟨⟨@zgq, ⟨@zfa, @zdc⟩⟩, ⟨@zdd, ⟨@zdh, @zfo⟩⟩⟩, ⟨⟨@zli, ⟨@zgo, @zht⟩⟩, ⟨@zhu, ⟨@zkq, @zul⟩⟩⟩⟩, ⟨⟨⟨@zlj, ⟨@zhv, @jbd⟩⟩, ⟨@jbe, ⟨@jiz, @jiy⟩⟩⟩, ⟨⟨@ji0, ⟨@zso, @zsq⟩⟩, ⟨⟨@zlk, @zmn⟩, ⟨@zmo, @jiq⟩⟩⟩⟩⟩⟩
theorem Rt.fr1 {m : List Nat} {τ : Fr} {H : zad} : Rt m τ H τ (H ++ [.free]) := fun c a w _ h => R.reserve 1 H h
def zgh : AObj := .cells [.d (oD false), .d (.val (.slice none 0 0)), .d (.val (.slice none 0 0)), .d (.val (.slice none 0 0)), .d (.val (.slice none 0 0))]
theorem zer {p q : Prop} (hq : q) (h : p = q := by
 conv => lhs; simp -dsimp -implicitDefEqProofs (disch := first | assumption | omega | (simp only [r_z, zab, zae, zap, zbc, zbd, zbe, zbf] <;> omega) | decide) only [r_r, ↓reduceIte, Nat.reduceEqDiff, Nat.reduceAdd, D.fix, Int.reduceToNat, Nat.reduceMul, Nat.reduceBNe, Nat.reduceBEq, r_m, zby, zb1, zao, zaj, zcg, za7, za6, zbn, zbj, zcv, iD, oD, zgh, zlu]) : p := h.mpr hq
theorem zu0 (k : List Nat) {m : List Nat} {τ τ1 : Fr} {H H1 : zad} (h : Rt m (fun t => gcV k (τ t)) (gcH k H) τ1 H1) (a : ∀ i ∈ m, k[i]? = some i := by decide) (b : k.Nodup := by decide) (c : ∀ i ∈ k, i < H.length := by
 simp [fzH, gcH]) : Rt m τ H τ1 H1 := Rt.trans (Rt.gc a b c) h
theorem zu1 {m : List Nat} {τ τ' : Fr} {H H' : zad} (h2 : H = H') (h : zgu τ τ' := by
 repeat (first | exact zar _ | refine zam ?_ (by first | rfl | (simp [r_f, zab, zae, zap, zbc, zbd, zbe, zbf, jjj]; done) | simp [r_f, zab, zae, zap, zbc, zbd, zbe, zbf, jjj, *]))) : Rt m τ H τ' H' := Rt.end h h2
theorem ju7 {p q r : Prop} (e : r) (hq : q) (h : r → p = q := by
 intro hY
 conv => lhs; simp -dsimp -implicitDefEqProofs (disch := first | assumption | omega | (simp only [r_z, zab, zae, zap, zbc, zbd, zbe, zbf] <;> omega) | decide) only [r_r, ↓reduceIte, Nat.reduceEqDiff, Nat.reduceAdd, D.fix, Int.reduceToNat, Nat.reduceMul, Nat.reduceBNe, Nat.reduceBEq, r_m, zby, zb1, zao, zaj, zcg, za7, za6, zbn, zbj, zcv, iD, oD, zgh, zay, zlu, hY]) : p := (h e).mpr hq
theorem ju8 {p q r : Prop} (e : r) (hq : q) (h : r → p = q := by
 intro hY
 conv => lhs; simp -dsimp -implicitDefEqProofs (disch := first | assumption | omega | (simp only [r_z, zab, zae, zap, zbc, zbd, zbe, zbf] <;> omega) | decide) only [r_r, ↓reduceIte, Nat.reduceEqDiff, Nat.reduceAdd, D.fix, Int.reduceToNat, Nat.reduceMul, Nat.reduceBNe, Nat.reduceBEq, r_w, r_m, zby, zb1, zao, zaj, zcg, za7, za6, zbn, zbj, zcv, iD, oD, zgh, zhf, zl8, zsb jm9 hkw hE.w.ok, Option.getD_some, Option.getD_none, zlu, hY]) : p := (h e).mpr hq
theorem jo5 {p q : Prop} (hq : q) (h : p = q := by
 conv => lhs; simp -dsimp -implicitDefEqProofs (disch := first | assumption | omega | (simp only [r_z, zab, zae, zap, zbc, zbd, zbe, zbf] <;> omega) | decide) only [r_r, ↓reduceIte, Nat.reduceEqDiff, Nat.reduceAdd, D.fix, Int.reduceToNat, Nat.reduceMul, Nat.reduceBNe, Nat.reduceBEq, r_m, zby, zb1, zao, zaj, zcg, za7, za6, zbn, zbj, zcv, iD, oD, zgh]) : p := h.mpr hq
theorem ju9 {p q r : Prop} (e : r) (hq : q) (h : r → p = q := by
 intro hY
 conv => lhs; simp -dsimp -implicitDefEqProofs (disch := first | assumption | omega | (simp only [r_z, zab, zae, zap, zbc, zbd, zbe, zbf] <;> omega) | decide) only [r_r, ↓reduceIte, Nat.reduceEqDiff, Nat.reduceAdd, D.fix, Int.reduceToNat, Nat.reduceMul, Nat.reduceBNe, Nat.reduceBEq, r_m, zby, zb1, zao, zaj, zcg, za7, za6, zbn, zbj, zcv, iD, oD, zgh, zhf, zl8, zsb jyc hk8 hE.s.ok, Option.getD_some, Option.getD_none, zlu, hY]) : p := (h e).mpr hq
theorem jva {p q r : Prop} (e : r) (hq : q) (h : r → p = q := by
 intro hY
 conv => lhs; simp -dsimp -implicitDefEqProofs (disch := first | assumption | omega | (simp only [r_z, zab, zae, zap, zbc, zbd, zbe, zbf] <;> omega) | decide) only [r_r, ↓reduceIte, Nat.reduceEqDiff, Nat.reduceAdd, D.fix, Int.reduceToNat, Nat.reduceMul, Nat.reduceBNe, Nat.reduceBEq, r_m, zby, zb1, zao, zaj, zcg, za7, za6, zbn, zbj, zcv, iD, oD, zgh, zlu, hY]) : p := (h e).mpr hq
theorem jvb {p q r : Prop} (e : r) (hq : q) (h : r → p = q := by
 intro hY
 conv => lhs; simp -dsimp -implicitDefEqProofs (disch := first | assumption | omega | (simp only [r_z, zab, zae, zap, zbc, zbd, zbe, zbf] <;> omega) | decide) only [r_r, ↓reduceIte, Nat.reduceEqDiff, Nat.reduceAdd, D.fix, Int.reduceToNat, Nat.reduceMul, Nat.reduceBNe, Nat.reduceBEq, r_m, zby, zb1, zao, zaj, zcg, za7, za6, zbn, zbj, zcv, iD, oD, zgh, zhf, zl8, zsb jyc hk6 hE.s.ok, Option.getD_some, Option.getD_none, zlu, hY]) : p := (h e).mpr hq
theorem jfq {p : Prop} (h : p := by
 first | rfl | (simp only [r_g, Nat.reduceAdd, ↓reduceIte, Nat.reduceEqDiff, r_m, zby, zb1, zao, zaj, zcg, za7, za6, zbn, zbj, zcv, iD, oD, zgh]; first | done | rfl)) : p := h
theorem jq8 {p q : Prop} (hq : q) (h : p = q := by
 conv => lhs; simp only [r_g, Nat.reduceAdd, ↓reduceIte, Nat.reduceEqDiff, r_m, zby, zb1, zao, zaj, zcg, za7, za6, zbn, zbj, zcv, iD, oD, zgh]) : p := h.mpr hq
theorem zz8 (n : Net) (s : PSt) (v : List Bool) (e0 e1 : Int) (ho : n.out.length ≤ 1000000) (hv : n.out.length ≤ v.length) (hw : ∀ w ∈ n.out, WireOut w) (h1 : s.regs.length ≤ 1000000) (h2 : s.mems.length ≤ 1000000) (h3 : ∀ l ∈ s.mems, l.length ≤ 1000000) (h4 : e0 ≤ 1000000) (h5 : e1 ≤ 1000000) (h6 : -1000000 ≤ e0) (h7 : -1000000 ≤ e1) : zaz Try.prog 20 [zby n, .agg (zcg s), boolsD v, .agg [iD e0, iD e1]] (.d (.agg (zgv (efF n.out s v e0.toNat e1.toNat)))) := by
 refine zaw (fn := Try.f20) (by kernel_rfl) Try.func20 rfl (Nat.le_of_ble_eq_true rfl) fun c hc hp => ?_
 refine za0 (τ' := frL [(0, .d (zby n)), (1, .d (.agg (zcg s))), (2, .d (boolsD v)), (3, .d (.agg [iD e0, iD e1]))]) (by repeat (first | exact zar _ | refine zam ?_ (by first | rfl | (simp [r_f, zab, zae, zap, zbc, zbd, zbe, zbf, jjj]; done) | simp [r_f, zab, zae, zap, zbc, zbd, zbe, zbf, jjj, *]))) ?_
 refine szq hp (fun _ hZ => zer hZ) ?_
 refine szq hp (fun _ hZ => zer hZ) ?_
 refine zaa fun K3 hK3 => ?_
 refine szq hp (fun _ hZ => zer hZ) ?_
 refine zac ?_
 refine zan hp (fun τ' H' mm => ∃ (k : Nat) (μs μw : Mp), (k ≤ n.out.length ∧ EfP n.out v k μs μw) ∧ mm = n.out.length - k ∧ H' = [.cells (avs (zb1 n)), .cells (avs (zcg s)), .cells [.d (iD e0), .d (iD e1)], zgh, mO μs, mO μw] ∧ τ' = frL [(2, .d (boolsD v)), (4, .op 0 0), (5, .op 1 0), (7, .op 2 0), (8, .op 3 0), (9, .om 4), (10, .om 5), (24, .d (zao n.out)), (25, .d (iD n.out.length)), (26, .d (iD k))]) (n.out.length) ?_ ⟨0, ([], 0), ([], 0), ⟨Nat.zero_le _, EfP.nil _ _⟩, rfl, rfl, rfl⟩ ?_
 ·refine zu0 [0,1,2,3,4,5] ?_
  refine zu1 ?_
  exact jfq
 rintro τ' H' mm ⟨k, μs, μw, ⟨hk, hE⟩, rfl, rfl, rfl⟩
 refine szq hp (fun _ hZ => zer hZ) ?_
 refine zaa fun K6 hK6 => ?_
 refine zah rfl (fun ht => ?_) (fun ht => ?_)
 ·have hlt : k < n.out.length := by simp at ht; omega
  obtain ⟨ko, i0, b0, b7, i2⟩ := hw _ (zb0 hlt)
  have I1 : I64 (nth n.out k).kind := zra (by omega) (by omega)
  have I2 : I64 (nth n.out k).i := zra (by omega) (by omega)
  refine zaf (hK6 _ _ ?_)
  refine zaa fun K7 hK7 => ?_
  refine zac ?_
  refine szq hp (fun _ hZ => zer hZ) ?_
  refine zag hp zai hc rfl fun K9 hK9 => ?_
  rcases tf (nth v k) with e | e
  ·refine ju7 e ?_
   refine hK9 _ _ ?_
   refine szt ?_
   skip
   have hks : zr8 Try.prog tEb (eV (nth n.out k).kind (nth n.out k).i) := zux I1 I2
   have hkw : zr8 Try.prog tEi (eV (nth n.out k).kind (nth n.out k).i) := zrb I1 I2
   refine zag hp zai hc rfl fun K10 hK10 => ?_
   simp -dsimp -implicitDefEqProofs (disch := first | assumption | omega | (simp only [r_z, zab, zae, zap, zbc, zbd, zbe, zbf] <;> omega) | decide) only [r_r, ↓reduceIte, Nat.reduceEqDiff, Nat.reduceAdd, D.fix, Int.reduceToNat, Nat.reduceMul, Nat.reduceBNe, Nat.reduceBEq, r_m, zby, zb1, zao, zaj, zcg, za7, za6, zbn, zbj, zcv, iD, oD, zgh, zhf, jy8 jyc hks hE.s.ok, zlu]
   refine hK10 _ _ ?_
   refine zl7 zai hp hc za8 rfl [(0, []), (1, []), (2, []), (3, []), (4, []), (5, []), (6, []), (7, []), (8, []), (9, []), (10, []), (11, [6]), (12, []), (13, [])] [[], [], [1], [], [3], [1, 2, 3, 4], [0, 1, 2, 3, 4, 5], [], [7], [7, 8], [0, 1, 2, 3, 4, 5, 6, 7, 8, 9], [0, 1, 2, 3, 4, 5, 7, 8, 9], [0, 1, 2, 3, 4, 5, 7, 8, 9, 11], [0, 1, 2, 3, 4, 5, 6, 7, 8, 9, 10, 11, 12]] 0 (by kernel_rfl) fun K11 hK11 => ?_
   rcases tf (zj5 n.out v (nth n.out k).kind (nth n.out k).i k) with e2 | e2
   ·have hgm : zpe (eV (nth n.out k).kind (nth n.out k).i) μw = some (.int .i64 (zc9 n.out v (nth n.out k).kind (nth n.out k).i k)) := by rw [hE.gw _ _ I1 I2, if_pos e2]
    have hA := fun (H : zad) (id : Nat) => jzj (H := H) (id := id) jm9 hkw hE.w hgm
    have hB := fun (H : zad) (id : Nat) (w : Value) => jzk (H := H) (id := id) (w := w) hE.w hgm
    have hC := hgm
    refine ju8 (sza hgm (sza hA (sza hB hC))) ?_
    refine hK11 _ _ (hK7 _ _ ?_)
    refine za5 hp zai hc rfl fun K12 hK12 => ?_
    refine zer ?_
    refine hK12 _ _ ⟨_, _, _, ?_, ⟨k + 1, _, _, ⟨by omega, hE.add e I1 I2⟩, rfl, rfl, rfl⟩, ?_⟩
    ·first | omega | (simp only [List.length_cons]; omega) | (dsimp only; omega)
    ·refine zu0 [0,1,2,3,4,5] ?_
     refine zu1 ?_
     exact jfq
   ·have hgm : zpe (eV (nth n.out k).kind (nth n.out k).i) μw = none := by rw [hE.gw _ _ I1 I2, if_neg (by rw [e2]; simp)]
    have hw0 := jfn e2
    have hA := fun (H : zad) (id : Nat) => jy9 (H := H) (id := id) jm9 hkw hE.w.ok hgm
    have hB := fun (H : zad) (id : Nat) (w : Value) => jza (H := H) (id := id) (u := w) (z := .int .i64 0) hE.w.ok hkw.1 hgm
    have hC := jzl jm9 hkw hE.w.ok hgm
    refine ju8 (sza hgm (sza hA (sza hB hC))) ?_
    refine hK11 _ _ (hK7 _ _ ?_)
    refine za5 hp zai hc rfl fun K13 hK13 => ?_
    refine zer ?_
    refine hK13 _ _ ⟨_, _, _, ?_, ⟨k + 1, _, _, ⟨by omega, hE.add e I1 I2⟩, rfl, rfl, rfl⟩, ?_⟩
    ·first | omega | (simp only [List.length_cons]; omega) | (dsimp only; omega)
    ·refine zu0 [0,1,2,3,4,5] ?_
     refine zu1 ?_
     refine jq8 ?_; rw [hw0]; rfl
  ·refine ju7 e ?_
   refine hK9 _ _ ?_
   refine szf ?_
   refine zaf (hK7 _ _ ?_)
   refine za5 hp zai hc rfl fun K14 hK14 => ?_
   refine zer ?_
   refine hK14 _ _ ⟨_, _, _, ?_, ⟨k + 1, _, _, ⟨by omega, hE.same e⟩, rfl, rfl, rfl⟩, ?_⟩
   ·first | omega | (simp only [List.length_cons]; omega) | (dsimp only; omega)
   ·refine zu0 [0,1,2,3,4,5] ?_
    refine zu1 ?_
    exact jfq
 ·have hkk : k = n.out.length := by simp at ht; omega
  subst hkk
  refine zau (hK3 _ _ ?_)
  refine szq hp (fun _ hZ => zer hZ) ?_
  refine zaa fun K16 hK16 => ?_
  refine szq hp (fun _ hZ => zer hZ) ?_
  refine zac ?_
  refine zan hp (fun τ' H' mm => ∃ (i : Nat), (i ≤ s.regs.length) ∧ mm = s.regs.length - i ∧ H' = [.cells (avs (zcg s)), .cells [.d (iD e0), .d (iD e1)], zgh, mO μs, mO μw, .cells [.d (oD false), .os 1 6 0 i, .d (.val (.slice none 0 0)), .d (.val (.slice none 0 0)), .d (.val (.slice none 0 0))], .cells (avs ((zg3 n.out v i).map iD))] ∧ τ' = frL [(5, .op 0 0), (7, .op 1 0), (8, .op 2 0), (9, .om 3), (10, .om 4), (13, .op 5 0), (57, .d (iD s.regs.length)), (58, .d (iD i))]) (s.regs.length) ?_ ⟨0, Nat.zero_le _, rfl, rfl, rfl⟩ ?_
  ·refine Rt.trans (Rt.nilc 6 1 1 rfl rfl) ?_
   refine zu0 [1,2,3,4,5,6,7] ?_
   refine zu1 ?_
   exact jfq
  rintro τ' H' mm ⟨i, hi, rfl, rfl, rfl⟩
  refine szq hp (fun _ hZ => zer hZ) ?_
  refine zaa fun K19 hK19 => ?_
  refine zah rfl (fun ht => ?_) (fun ht => ?_)
  ·have hlt : i < s.regs.length := by simp at ht; omega
   have I3 : I64 (i : Int) := zra (by omega) (by omega)
   have hkw : zr8 Try.prog tEi (eV 1 i) := zrb (zra (by omega) (by omega)) I3
   have hgm := hE.gw 1 i (zra (by omega) (by omega)) I3
   refine zaf (hK19 _ _ ?_)
   refine zaa fun K20 hK20 => ?_
   refine zac ?_
   refine szq hp (fun _ hZ => jo5 hZ) ?_
   refine zfj zai hc za8 rfl (q := 2) (by kernel_rfl) (by kernel_rfl) fun K22 hK22 => ?_
   simp -dsimp -implicitDefEqProofs (disch := first | assumption | omega | (simp only [r_z, zab, zae, zap, zbc, zbd, zbe, zbf] <;> omega) | decide) only [r_r, ↓reduceIte, Nat.reduceEqDiff, Nat.reduceAdd, D.fix, Int.reduceToNat, Nat.reduceMul, Nat.reduceBNe, Nat.reduceBEq, r_m, zby, zb1, zao, zaj, zcg, za7, za6, zbn, zbj, zcv, iD, oD, zgh, zhf, zl8, zsb jm9 hkw hE.w.ok, hgm, zkw, zlu]
   refine hK22 _ _ (hK20 _ _ ?_)
   refine za5 hp zai hc rfl fun K23 hK23 => ?_
   refine zer ?_
   refine hK23 _ _ ⟨_, _, _, ?_, ⟨i + 1, by omega, rfl, rfl, rfl⟩, ?_⟩
   ·first | omega | (simp only [List.length_cons]; omega) | (dsimp only; omega)
   ·refine zu0 [0,1,2,3,4,5,8] ?_
    refine zu1 ?_
    refine jq8 ?_; rw [zrd]; simp [iD]
  ·have hii : i = s.regs.length := by simp at ht; omega
   subst hii
   refine zau (hK16 _ _ ?_)
   refine zaa fun K24 hK24 => ?_
   refine szq hp (fun _ hZ => zer hZ) ?_
   refine zac ?_
   refine zan hp (fun τ' H' mm => ∃ (i : Nat), (i ≤ s.mems.length) ∧ mm = s.mems.length - i ∧ H' = [.cells (avs (zcg s)), .cells [.d (iD e0), .d (iD e1)], zgh, mO μs, mO μw, .cells [.d (oD false), .os 1 6 0 s.regs.length, .os 1 7 0 i, .d (.val (.slice none 0 0)), .d (.val (.slice none 0 0))], .cells (avs ((zg3 n.out v s.regs.length).map iD)), .cells (avs ((zhe n.out v s.mems i).map intsD))] ∧ τ' = frL [(5, .op 0 0), (7, .op 1 0), (8, .op 2 0), (9, .om 3), (10, .om 4), (13, .op 5 0), (74, .d (intssD s.mems)), (75, .d (iD s.mems.length)), (76, .d (iD i))]) (s.mems.length) ?_ ⟨0, Nat.zero_le _, rfl, rfl, rfl⟩ ?_
   ·refine Rt.trans (Rt.nilc 5 2 1 rfl rfl) ?_
    refine zu0 [0,1,2,3,4,5,6,7] ?_
    refine zu1 ?_
    exact jfq
   rintro τ' H' mm ⟨i, hi, rfl, rfl, rfl⟩
   refine szq hp (fun _ hZ => zer hZ) ?_
   refine zaa fun K27 hK27 => ?_
   refine zah rfl (fun ht => ?_) (fun ht => ?_)
   ·have hlt : i < s.mems.length := by simp at ht; omega
    have I3 : I64 (i : Int) := zra (by omega) (by omega)
    have hml : (nth s.mems i).length ≤ 1000000 := h3 _ (zb0 hlt)
    refine zaf (hK27 _ _ ?_)
    refine zaa fun K28 hK28 => ?_
    refine zac ?_
    refine zag hp zai hc rfl fun K29 hK29 => ?_
    simp -dsimp -implicitDefEqProofs (disch := first | assumption | omega | (simp only [r_z, zab, zae, zap, zbc, zbd, zbe, zbf] <;> omega) | decide) only [r_r, ↓reduceIte, Nat.reduceEqDiff, Nat.reduceAdd, D.fix, Int.reduceToNat, Nat.reduceMul, Nat.reduceBNe, Nat.reduceBEq, r_m, zby, zb1, zao, zaj, zcg, za7, za6, zbn, zbj, zcv, iD, oD, zgh, zay, zlu]
    refine hK29 _ _ ?_
    refine zbg hp (τ' := frL [(5, .op 1 0), (7, .op 2 0), (8, .op 3 0), (9, .om 4), (10, .om 5), (13, .op 6 0), (15, .d (iD i)), (16, .d (intsD (nth s.mems i))), (74, .d (intssD s.mems)), (75, .d (iD s.mems.length)), (76, .d (iD i))]) (H' := .free :: [.cells (avs (zcg s)), .cells [.d (iD e0), .d (iD e1)], zgh, mO μs, mO μw, .cells [.d (oD false), .os 1 7 0 s.regs.length, .os 1 8 0 i, .d (.val (.slice none 0 0)), .d (.val (.slice none 0 0))], .cells (avs ((zg3 n.out v s.regs.length).map iD)), .cells (avs ((zhe n.out v s.mems i).map intsD))]) ?_ ?_
    ·refine Rt.trans (Rt.fr1) ?_
     refine zu0 [8,0,1,2,3,4,5,6,7] ?_
     refine zu1 ?_
     exact jfq
    refine zag hp zai hc rfl fun K30 hK30 => ?_
    refine zer ?_
    refine zwb (S := [.free]) (T := [.cells (avs (zcg s)), .cells [.d (iD e0), .d (iD e1)], zgh, mO μs, mO μw, .cells [.d (oD false), .os 1 7 0 s.regs.length, .os 1 8 0 i, .d (.val (.slice none 0 0)), .d (.val (.slice none 0 0))], .cells (avs ((zg3 n.out v s.regs.length).map iD)), .cells (avs ((zhe n.out v s.mems i).map intsD))]) (jo4 (nth s.mems i) hml) rfl (by first | rfl | (simp [AV.allIs, AV.allI, zbi, za3, za4, okI, ltI, zat, zb2, zgh]; done) | (intro o ho; simp at ho; done)) (fun t => zc8 (by first | rfl | (simp [AV.allIs, AV.allI, zbi, za3, za4, okI, ltI, zat, zb2, zgh]; done) | (intro o ho; simp at ho; done)) t) (by first | rfl | (simp [AV.allIs, AV.allI, zbi, za3, za4, okI, ltI, zat, zb2, zgh]; done) | (intro o ho; simp at ho; done)) (by first | rfl | (simp [AV.allIs, AV.allI, zbi, za3, za4, okI, ltI, zat, zb2, zgh]; done) | (intro o ho; simp at ho; done)) (by first | rfl | (simp [AV.allIs, AV.allI, zbi, za3, za4, okI, ltI, zat, zb2, zgh]; done) | (intro o ho; simp at ho; done)) ?_
    rintro _ _ ⟨_, rfl, rfl, rfl⟩
    refine ⟨rfl, ?_⟩
    refine zer ?_
    refine hK30 _ _ ?_
    refine zaa fun K31 hK31 => ?_
    have hJ31 : ∀ τ' H', (∃ τ1 H1, ∃ (ml : List Int), (ml = zta n.out v i (nth s.mems i)) ∧ H1 = [.cells (avs (zcg s)), .cells [.d (iD e0), .d (iD e1)], zgh, mO μs, mO μw, .cells [.d (oD false), .os 1 6 0 s.regs.length, .os 1 7 0 i, .d (.val (.slice none 0 0)), .d (.val (.slice none 0 0))], .cells (avs ((zg3 n.out v s.regs.length).map iD)), .cells (avs ((zhe n.out v s.mems i).map intsD))] ∧ τ1 = frL [(5, .op 0 0), (7, .op 1 0), (8, .op 2 0), (9, .om 3), (10, .om 4), (13, .op 5 0), (16, .d (intsD ml)), (74, .d (intssD s.mems)), (75, .d (iD s.mems.length)), (76, .d (iD i))] ∧ Rt [] τ' H' τ1 H1) → K31 τ' H' := by
     rintro τ' H' ⟨_, _, ml, hml2, rfl, rfl, hrt⟩
     refine hK31 _ _ (zbg hp hrt ?_)
     clear hrt
     refine szs hp (fun _ hZ => zer hZ) (hK28 _ _ ?_)
     refine za5 hp zai hc rfl fun K33 hK33 => ?_
     refine zer ?_
     refine hK33 _ _ ⟨_, _, _, ?_, ⟨i + 1, by omega, rfl, rfl, rfl⟩, ?_⟩
     ·first | omega | (simp only [List.length_cons]; omega) | (dsimp only; omega)
     ·refine zu0 [0,1,2,3,4,5,6,9] ?_
      refine zu1 ?_
      refine jq8 ?_; rw [zre, ← hml2]; simp [intsD, iD]
    have hk9 : zr8 Try.prog tEi (eV 9 i) := zrb (zra (by omega) (by omega)) I3
    have hg9 := hE.gw 9 i (zra (by omega) (by omega)) I3
    have hk8 : zr8 Try.prog tEb (eV 8 i) := zux (zra (by omega) (by omega)) I3
    have hg8 := hE.gs 8 i (zra (by omega) (by omega)) I3
    have hk10 : zr8 Try.prog tEi (eV 10 i) := zrb (zra (by omega) (by omega)) I3
    have hg10 := hE.gw 10 i (zra (by omega) (by omega)) I3
    obtain ⟨at9, ha9, hb9⟩ := jfo (out := n.out) (v := v) (kind := 9) (i := i) (fun k hk => ⟨(hw _ (zb0 hk)).b0, (hw _ (zb0 hk)).b7⟩) (Nat.le_refl _)
    have hd9 := zkw (out := n.out) (v := v) (kind := 9) (i := i) (k := n.out.length)
    rw [ha9] at hd9 hg9
    refine zag hp zai hc rfl fun K34 hK34 => ?_
    simp -dsimp -implicitDefEqProofs (disch := first | assumption | omega | (simp only [r_z, zab, zae, zap, zbc, zbd, zbe, zbf] <;> omega) | decide) only [r_r, ↓reduceIte, Nat.reduceEqDiff, Nat.reduceAdd, D.fix, Int.reduceToNat, Nat.reduceMul, Nat.reduceBNe, Nat.reduceBEq, r_m, zby, zb1, zao, zaj, zcg, za7, za6, zbn, zbj, zcv, iD, oD, zgh, zhf, zl8, zsb jm9 hk9 hE.w.ok, hg9, hd9, ha9, zlu]
    refine hK34 _ _ ?_
    refine zag hp zai hc rfl fun K35 hK35 => ?_
    rcases tf (zj5 n.out v 8 i n.out.length) with e8 | e8
    ·refine ju9 (sza hg8 e8) ?_
     refine hK35 _ _ ?_
     refine zah rfl (fun ht => ?_) (fun ht => ?_)
     ·have hlt9 : at9 < (nth s.mems i).length := by simpa using ht
      have hmf : zta n.out v i (nth s.mems i) = (nth s.mems i).set at9 (zc9 n.out v 10 i n.out.length) := by unfold zta; rw [ha9, e8, if_pos (by simp; omega)]; simp
      refine za5 hp zai hc rfl fun K36 hK36 => ?_
      simp -dsimp -implicitDefEqProofs (disch := first | assumption | omega | (simp only [r_z, zab, zae, zap, zbc, zbd, zbe, zbf] <;> omega) | decide) only [r_r, ↓reduceIte, Nat.reduceEqDiff, Nat.reduceAdd, D.fix, Int.reduceToNat, Nat.reduceMul, Nat.reduceBNe, Nat.reduceBEq, r_m, zby, zb1, zao, zaj, zcg, za7, za6, zbn, zbj, zcv, iD, oD, zgh, zhf, zl8, zsb jm9 hk10 hE.w.ok, hg10, zkw, zlu]
      refine hK36 _ _ (hJ31 _ _ ⟨_, _, _, hmf.symm, rfl, rfl, ?_⟩)
      refine Rt.trans (Rt.fz (id := 0) rfl) ?_
      refine Rt.trans (Rt.slot 16 (zee (za2 (by simp [r_z, zab, zae, zap, zbc, zbd, zbe, zbf])))) ?_
      refine zu0 [1,2,3,4,5,6,7,8] ?_
      refine zu1 ?_
      exact jfq
     ·have hmf : zta n.out v i (nth s.mems i) = nth s.mems i := by unfold zta; rw [ha9, e8, if_neg (by simpa using ht)]
      refine zaf (hJ31 _ _ ⟨_, _, _, hmf.symm, rfl, rfl, ?_⟩)
      refine Rt.trans (Rt.fz (id := 0) rfl) ?_
      refine Rt.trans (Rt.slot 16 (zee (za2 (by simp [r_z, zab, zae, zap, zbc, zbd, zbe, zbf])))) ?_
      refine zu0 [1,2,3,4,5,6,7,8] ?_
      refine zu1 ?_
      exact jfq
    ·refine ju9 (sza hg8 e8) ?_
     refine hK35 _ _ ?_
     refine szf ?_
     have hmf : zta n.out v i (nth s.mems i) = nth s.mems i := by unfold zta; rw [e8, if_neg (by simp)]
     refine zaf (hJ31 _ _ ⟨_, _, _, hmf.symm, rfl, rfl, ?_⟩)
     refine Rt.trans (Rt.fz (id := 0) rfl) ?_
     refine Rt.trans (Rt.slot 16 (zee (za2 (by simp [r_z, zab, zae, zap, zbc, zbd, zbe, zbf])))) ?_
     refine zu0 [1,2,3,4,5,6,7,8] ?_
     refine zu1 ?_
     exact jfq
   ·have hii : i = s.mems.length := by simp at ht; omega
    subst hii
    have hE1 : ((max e0 0 : Int)) = (e0.toNat : Int) := by omega
    refine zau (hK24 _ _ ?_)
    refine zaa fun K37 hK37 => ?_
    refine szq hp (fun _ hZ => jva hE1 hZ) ?_
    refine zac ?_
    refine zan hp (fun τ' H' mm => ∃ (i : Nat), (i ≤ e0.toNat) ∧ mm = e0.toNat - i ∧ H' = [.cells (avs (zcg s)), .cells [.d (iD e0), .d (iD e1)], zgh, mO μs, mO μw, .cells [.d (oD false), .os 1 6 0 s.regs.length, .os 1 7 0 s.mems.length, .os 1 8 0 i, .d (.val (.slice none 0 0))], .cells (avs ((zg3 n.out v s.regs.length).map iD)), .cells (avs ((zhe n.out v s.mems s.mems.length).map intsD)), .cells (avs ((zmz n.out v i).map oD))] ∧ τ' = frL [(5, .op 0 0), (7, .op 1 0), (8, .op 2 0), (9, .om 3), (10, .om 4), (13, .op 5 0), (115, .d (iD e0.toNat)), (116, .d (iD i))]) (e0.toNat) ?_ ⟨0, Nat.zero_le _, rfl, rfl, rfl⟩ ?_
    ·refine Rt.trans (Rt.nilc 5 3 1 rfl rfl) ?_
     refine zu0 [0,1,2,3,4,5,6,7,8] ?_
     refine zu1 ?_
     exact jfq
    rintro τ' H' mm ⟨i, hi, rfl, rfl, rfl⟩
    refine szq hp (fun _ hZ => zer hZ) ?_
    refine zaa fun K40 hK40 => ?_
    refine zah rfl (fun ht => ?_) (fun ht => ?_)
    ·have hlt : i < e0.toNat := by simp at ht; omega
     have I3 : I64 (i : Int) := zra (by omega) (by omega)
     have hk5 : zr8 Try.prog tEb (eV 5 i) := zux (zra (by omega) (by omega)) I3
     have hg5 := hE.gs 5 i (zra (by omega) (by omega)) I3
     refine zaf (hK40 _ _ ?_)
     refine zaa fun K41 hK41 => ?_
     refine zac ?_
     refine szq hp (fun _ hZ => jo5 hZ) ?_
     refine zfj zai hc za8 rfl (q := 2) (by kernel_rfl) (by kernel_rfl) fun K43 hK43 => ?_
     simp -dsimp -implicitDefEqProofs (disch := first | assumption | omega | (simp only [r_z, zab, zae, zap, zbc, zbd, zbe, zbf] <;> omega) | decide) only [r_r, ↓reduceIte, Nat.reduceEqDiff, Nat.reduceAdd, D.fix, Int.reduceToNat, Nat.reduceMul, Nat.reduceBNe, Nat.reduceBEq, r_m, zby, zb1, zao, zaj, zcg, za7, za6, zbn, zbj, zcv, iD, oD, zgh, zhf, zl8, zsb jyc hk5 hE.s.ok, hg5, jjl, zlu]
     refine hK43 _ _ (hK41 _ _ ?_)
     refine za5 hp zai hc rfl fun K44 hK44 => ?_
     refine zer ?_
     refine hK44 _ _ ⟨_, _, _, ?_, ⟨i + 1, by omega, rfl, rfl, rfl⟩, ?_⟩
     ·first | omega | (simp only [List.length_cons]; omega) | (dsimp only; omega)
     ·refine zu0 [0,1,2,3,4,5,6,7,10] ?_
      refine zu1 ?_
      refine jq8 ?_; rw [zrf]; simp [oD]
    ·have hii : i = e0.toNat := by simp at ht; omega
     subst hii
     have hE2 : ((max e1 0 : Int)) = (e1.toNat : Int) := by omega
     refine zau (hK37 _ _ ?_)
     refine zaa fun K45 hK45 => ?_
     refine szq hp (fun _ hZ => jva hE2 hZ) ?_
     refine zac ?_
     refine zan hp (fun τ' H' mm => ∃ (i : Nat), (i ≤ e1.toNat) ∧ mm = e1.toNat - i ∧ H' = [.cells (avs (zcg s)), .cells [.d (iD e0), .d (iD e1)], zgh, mO μs, mO μw, .cells [.d (oD false), .os 1 6 0 s.regs.length, .os 1 7 0 s.mems.length, .os 1 8 0 e0.toNat, .os 2 9 0 i], .cells (avs ((zg3 n.out v s.regs.length).map iD)), .cells (avs ((zhe n.out v s.mems s.mems.length).map intsD)), .cells (avs ((zmz n.out v e0.toNat).map oD)), .cells (avs ((zp1 n.out v i).flatMap zcv))] ∧ τ' = frL [(5, .op 0 0), (7, .op 1 0), (8, .op 2 0), (9, .om 3), (10, .om 4), (13, .op 5 0), (131, .d (iD e1.toNat)), (132, .d (iD i))]) (e1.toNat) ?_ ⟨0, Nat.zero_le _, rfl, rfl, rfl⟩ ?_
     ·refine Rt.trans (Rt.nilc 5 4 2 rfl rfl) ?_
      refine zu0 [0,1,2,3,4,5,6,7,8,9] ?_
      refine zu1 ?_
      exact jfq
     rintro τ' H' mm ⟨i, hi, rfl, rfl, rfl⟩
     refine szq hp (fun _ hZ => zer hZ) ?_
     refine zaa fun K48 hK48 => ?_
     refine zah rfl (fun ht => ?_) (fun ht => ?_)
     ·have hlt : i < e1.toNat := by simp at ht; omega
      have I3 : I64 (i : Int) := zra (by omega) (by omega)
      have hk6 : zr8 Try.prog tEb (eV 6 i) := zux (zra (by omega) (by omega)) I3
      have hg6 := hE.gs 6 i (zra (by omega) (by omega)) I3
      have hk7 : zr8 Try.prog tEi (eV 7 i) := zrb (zra (by omega) (by omega)) I3
      have hg7 := hE.gw 7 i (zra (by omega) (by omega)) I3
      refine zaf (hK48 _ _ ?_)
      refine zaa fun K49 hK49 => ?_
      refine zac ?_
      refine szq hp (fun _ hZ => jo5 hZ) ?_
      refine szq hp (fun _ hZ => zer hZ) ?_
      refine zaa fun K52 hK52 => ?_
      refine zag hp zai hc rfl fun K53 hK53 => ?_
      rcases tf (zj5 n.out v 6 i n.out.length) with e6 | e6
      ·have hpf : jfp n.out v i = ⟨true, zc9 n.out v 7 i n.out.length⟩ := by unfold jfp; rw [if_pos e6]
       refine jvb (sza hg6 e6) ?_
       refine hK53 _ _ ?_
       refine szt ?_
       refine za5 hp zai hc rfl fun K54 hK54 => ?_
       simp -dsimp -implicitDefEqProofs (disch := first | assumption | omega | (simp only [r_z, zab, zae, zap, zbc, zbd, zbe, zbf] <;> omega) | decide) only [r_r, ↓reduceIte, Nat.reduceEqDiff, Nat.reduceAdd, D.fix, Int.reduceToNat, Nat.reduceMul, Nat.reduceBNe, Nat.reduceBEq, r_m, zby, zb1, zao, zaj, zcg, za7, za6, zbn, zbj, zcv, iD, oD, zgh, zhf, zl8, zsb jm9 hk7 hE.w.ok, hg7, zkw, zlu]
       refine hK54 _ _ (hK52 _ _ ?_)
       refine szs hp (fun _ hZ => zer hZ) (hK49 _ _ ?_)
       refine za5 hp zai hc rfl fun K56 hK56 => ?_
       refine zer ?_
       refine hK56 _ _ ⟨_, _, _, ?_, ⟨i + 1, by omega, rfl, rfl, rfl⟩, ?_⟩
       ·first | omega | (simp only [List.length_cons]; omega) | (dsimp only; omega)
       ·refine zu0 [0,1,2,3,4,5,6,7,8,12] ?_
        refine zu1 ?_
        refine jq8 ?_; rw [zlt, hpf]; simp [zcv, oD, iD]
      ·have hpf : jfp n.out v i = ⟨false, 0⟩ := by unfold jfp; rw [if_neg (by rw [e6]; simp)]
       refine jvb (sza hg6 e6) ?_
       refine hK53 _ _ ?_
       refine szf ?_
       refine zaf (hK52 _ _ ?_)
       refine szs hp (fun _ hZ => zer hZ) (hK49 _ _ ?_)
       refine za5 hp zai hc rfl fun K58 hK58 => ?_
       refine zer ?_
       refine hK58 _ _ ⟨_, _, _, ?_, ⟨i + 1, by omega, rfl, rfl, rfl⟩, ?_⟩
       ·first | omega | (simp only [List.length_cons]; omega) | (dsimp only; omega)
       ·refine zu0 [0,1,2,3,4,5,6,7,8,12] ?_
        refine zu1 ?_
        refine jq8 ?_; rw [zlt, hpf]; simp [zcv, oD, iD]
     ·have hii : i = e1.toNat := by simp at ht; omega
      subst hii
      refine zau (hK45 _ _ ?_)
      refine szq hp (fun _ hZ => zer hZ) ?_
      refine zal ?_
      try dsimp only [zbm, zaq]
      refine zak rfl ?_
      simp -dsimp -implicitDefEqProofs (disch := first | assumption | omega | (simp only [r_z, zab, zae, zap, zbc, zbd, zbe, zbf] <;> omega) | decide) only [r_r, ↓reduceIte, Nat.reduceEqDiff, Nat.reduceAdd, D.fix, Int.reduceToNat, Nat.reduceMul, Nat.reduceBNe, Nat.reduceBEq, r_m, zby, zb1, zao, zaj, zcg, za7, za6, zbn, zbj, zcv, iD, oD, zgh, zoy, zsl]
      show closeA _ _ = _
      simp (disch := first | assumption | omega | (simp only [r_z, zab, zae, zap, zbc, zbd, zbe, zbf] <;> omega) | decide) only [r_c, Nat.reduceAdd, D.fix, ↓reduceIte, Nat.reduceEqDiff, r_m, zby, zb1, zao, zaj, zcg, za7, za6, zbn, zbj, zcv, iD, oD, zgh, zz3, zr1, zgv, efF]
      simp [zgv, efF, intsD, intssD, boolsD, za7, zbc, zbd, zbe, zbf, oD]
end Go.Proofs.Ytapjobndmmkanaa
