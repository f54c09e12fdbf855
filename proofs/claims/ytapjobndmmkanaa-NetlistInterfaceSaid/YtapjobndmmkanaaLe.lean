/- The chapter's examples (netlist). -/
import Derived.Test.YtapjobndmmkanaaQr
import Derived.Test.YtapjobndmmkanaaLh
import Derived.Test.YtapjobndmmkanaaLk
import Derived.Test.YtapjobndmmkanaaWo
set_option linter.unusedVariables false
set_option linter.unusedSimpArgs false
set_option maxRecDepth 100000
set_option maxHeartbeats 4000000
namespace Go.Proofs.Ytapjobndmmkanaa
open Go Go.RowKit
theorem jr0 : ((((type_of% @zcq) ∧ ((type_of% @zf0) ∧ (type_of% @zf1))) ∧ ((type_of% @zgr) ∧ ((type_of% @ze9) ∧ (type_of% @zd1)))) ∧ (((type_of% @zey) ∧ ((type_of% @zc7) ∧ (type_of% @zh0))) ∧ (((type_of% @zh1) ∧ (type_of% @zh2)) ∧ ((type_of% @zmx) ∧ (type_of% @zmy))))) := ⟨⟨⟨@zcq, ⟨@zf0, @zf1⟩⟩, ⟨@zgr, ⟨@ze9, @zd1⟩⟩⟩, ⟨⟨@zey, ⟨@zc7, @zh0⟩⟩, ⟨⟨@zh1, @zh2⟩, ⟨@zmx, @zmy⟩⟩⟩⟩
theorem jr1 {p q : Prop} (hq : q) (h : p = q := by
 conv => lhs; simp -dsimp -implicitDefEqProofs (disch := first | assumption | omega | (simp only [r_z, zab, zac] <;> omega) | decide) only [r_r, ↓reduceIte, Nat.reduceEqDiff, Nat.reduceAdd, D.fix, Int.reduceToNat, Nat.reduceMul, Nat.reduceBNe, Nat.reduceBEq, zcb, zb7, zay, za3, zav, r_e, jr0]) : p := h.mpr hq
theorem jlh {p q : Prop} (hq : q) (h : p = q := by
 conv => lhs; simp -dsimp -implicitDefEqProofs (disch := first | assumption | omega | (simp only [r_z, zab, zac] <;> omega) | decide) only [r_r, ↓reduceIte, Nat.reduceEqDiff, Nat.reduceAdd, D.fix, Int.reduceToNat, Nat.reduceMul, Nat.reduceBNe, Nat.reduceBEq, zcb, zb7, zay, za3, zav, r_e, bne_self_eq_false, jr0]) : p := h.mpr hq
theorem jzc {p q : Prop} (hq : q) (h : p = q := by
 conv => lhs; simp -dsimp -implicitDefEqProofs (disch := first | assumption | omega | (simp only [r_z, zab, zac] <;> omega) | decide) only [r_r, ↓reduceIte, Nat.reduceEqDiff, Nat.reduceAdd, D.fix, Int.reduceToNat, Nat.reduceMul, Nat.reduceBNe, Nat.reduceBEq, zcb, zb7, zay, za3, zav, r_e]) : p := h.mpr hq
theorem ygj {m : List Nat} {τ τ' : Fr} {H H' : zae} (h2 : H = H') (h : zfq τ τ' := by
 repeat (first | exact zas _ | refine zao ?_ (by first | rfl | (simp [r_f, zab, zac]; done) | simp [r_f, zab, zac, *]))) : Rt m τ H τ' H' := Rt.end h h2
theorem ygk {p : Prop} (h : p := by
 first | rfl | (simp only [r_g, Nat.reduceAdd, ↓reduceIte, Nat.reduceEqDiff, zcb, zb7, zay, za3, zav, r_e]; first | done | rfl)) : p := h
theorem jhu (n : Net) (h1 : n.ins.length ≤ 1000000) (h2 : n.gates.length ≤ 1000000) (h3 : n.out.length ≤ 1000000) (h4 : n.drive.length ≤ 1000000) : zbg Try.prog 37 [zcb n, zcb n] (.d (oD true)) := by
 have hin := jvw n.drive n.drive (by unfold maxLen; omega)
 rw [show decide (n.drive = n.drive) = true by simp] at hin
 refine za4 (fn := Try.f37) (by kernel_rfl) Try.func37 rfl (Nat.le_of_ble_eq_true rfl) fun c hc hp => ?_
 refine za9 (τ' := frL [(0, .d (zcb n)), (1, .d (zcb n))]) (by repeat (first | exact zas _ | refine zao ?_ (by first | rfl | (simp [r_f, zab, zac]; done) | simp [r_f, zab, zac, *]))) ?_
 refine szq hp (fun _ hZ => jr1 hZ) ?_
 refine zaa fun K2 hK2 => ?_
 refine zag hp zak hc rfl fun K3 hK3 => ?_
 refine jlh ?_
 refine zbp (zl5 n.ins h1) rfl ?_
 refine jlh ?_
 refine zbp (zl5 n.out h3) rfl ?_
 refine jlh ?_
 refine zbp (hin) rfl ?_
 refine jlh ?_
 refine hK3 _ _ ?_
 refine szf ?_
 refine zaj (hK2 _ _ ?_)
 refine zaa fun K4 hK4 => ?_
 refine szq hp (fun _ hZ => jzc hZ) ?_
 refine zaf ?_
 refine zan hp (fun τ' H' mm => ∃ (k : Nat), (k ≤ n.gates.length) ∧ mm = n.gates.length - k ∧ H' = [.cells (avs (zb7 n)), .cells (avs (zb7 n))] ∧ τ' = frL [(2, .op 0 0), (3, .op 1 0), (5, .d (iD k))]) (n.gates.length) ?_ ⟨0, Nat.zero_le _, rfl, rfl, rfl⟩ ?_
 ·refine ygj ?_
  exact ygk
 rintro τ' H' mm ⟨k, hk, rfl, rfl, rfl⟩
 refine zaa fun K6 hK6 => ?_
 refine szq hp (fun _ hZ => jr1 hZ) ?_
 refine zal rfl (fun ht => ?_) (fun ht => ?_)
 ·have hlt : k < n.gates.length := by simp at ht; omega
  refine zaj (hK6 _ _ ?_)
  refine zaa fun K8 hK8 => ?_
  refine zaf ?_
  refine za5 zak hc mixed rfl (q := 0) (by kernel_rfl) (by kernel_rfl) fun K9 hK9 => ?_
  simp -dsimp -implicitDefEqProofs (disch := first | assumption | omega | (simp only [r_z, zab, zac] <;> omega) | decide) only [r_r, ↓reduceIte, Nat.reduceEqDiff, Nat.reduceAdd, D.fix, Int.reduceToNat, Nat.reduceMul, Nat.reduceBNe, Nat.reduceBEq, zcb, zb7, zay, za3, zav, r_e, zjj, zjz, jr0, zqb jju, zqb jju]
  refine hK9 _ _ ?_
  refine zal rfl (fun ht => ?_) (fun ht => ?_)
  ·simp at ht
  ·refine zaj (hK8 _ _ ?_)
   refine za1 hp zak hc rfl fun K10 hK10 => ?_
   refine jr1 ?_
   refine hK10 _ _ ⟨_, _, _, ?_, ⟨k + 1, by omega, rfl, rfl, rfl⟩, ?_⟩
   ·first | omega | (simp only [List.length_cons]; omega) | (dsimp only; omega)
   ·refine ygj ?_
    exact ygk
 ·refine zau (hK4 _ _ ?_)
  refine szq hp (fun _ hZ => jzc hZ) ?_
  refine zam ?_
  show closeA _ _ = _
  simp (disch := first | assumption | omega | (simp only [r_z, zab, zac] <;> omega) | decide) only [r_c, Nat.reduceAdd, D.fix, ↓reduceIte, Nat.reduceEqDiff, zcb, zb7, zay, za3, zav, r_e]
def zm3 : Pr := ⟨⟨#[112]⟩, ⟨#[97]⟩, [⟨⟨#[114]⟩, 1, 0, .not (.reg 0), 0, ⟨#[]⟩, 0⟩], [], [], []⟩
def jas : Pr := { zm3 with takes := [⟨0, 1, .con 1 1⟩] }
def jli : Net := ⟨[⟨1, 0, 0⟩], [⟨1, 2, 0, 0, 0⟩], [⟨1, 0, 0⟩], [3]⟩
def exB0 : Net := ⟨[⟨1, 0, 0⟩, ⟨2, 0, 0⟩, ⟨3, 0, 0⟩], [⟨1, 2, 0, 0, 0⟩, ⟨5, 4, 5, 2, 0⟩], [⟨1, 0, 0⟩, ⟨5, 0, 0⟩], [6, 4]⟩
theorem jhv : ze4 zm3 = jli := by kernel_rfl
theorem jhw : ze4 jas = exB0 := by kernel_rfl
theorem lt1 {P : Nat → Prop} (h : P 0) : ∀ i, i < 1 → P i := fun i hi => by rw [show i = 0 by omega]; exact h
theorem jzd : PrOk zm3 := by
 refine ⟨⟨lt1 (by decide), fun i hi => absurd hi (by simp [ctP, zm3]), fun i hi => absurd hi (by simp [ctP, zm3]), by decide⟩, fun i hi => absurd hi (by simp [zm3]), lt1 ?_, fun i hi => absurd hi (by simp [zm3]), fun i hi => absurd hi (by simp [zm3]), fun i hi => absurd hi (by simp [zm3]), fun i hi => absurd hi (by simp [zm3]), fun i hi => absurd hi (by simp [zm3]), fun i hi => absurd hi (by simp [zm3]), by decide, by decide, by decide, by decide⟩
 exact ⟨show 0 < 1 by decide, rfl⟩
theorem jze : PrOk jas := by
 refine ⟨⟨lt1 (by decide), lt1 (by decide), fun i hi => absurd hi (by simp [ctP, jas, zm3]), by decide⟩, lt1 ?_, lt1 ?_, fun i hi => absurd hi (by simp [jas, zm3]), fun i hi => absurd hi (by simp [jas, zm3]), fun i hi => absurd hi (by simp [jas, zm3]), fun i hi => absurd hi (by simp [jas, zm3]), fun i hi => absurd hi (by simp [jas, zm3]), fun i hi => absurd hi (by simp [jas, zm3]), by decide, by decide, by decide, by decide⟩
 ·exact ⟨⟨by decide, by decide, by decide⟩, rfl⟩
 ·exact ⟨show 0 < 1 by decide, rfl⟩
theorem yd0 : zbg Try.prog 30 [zbq zm3] (.d (.agg (zeq jli 0))) := by
 have h := zlf zm3 jzd (by decide) (by decide) (by decide) (by rw [jhv]; decide)
 rwa [jhv] at h
theorem yd1 : zbg Try.prog 30 [zbq jas] (.d (.agg (zeq exB0 0))) := by
 have h := zlf jas jze (by decide) (by decide) (by decide) (by rw [jhw]; decide)
 rwa [jhw] at h
theorem yd2 : zbg Try.prog 38 [zcb jli] (.d (iD 1)) := zcc (n := 200) mixed zak (by kernel_rfl)
theorem yd3 : zbg Try.prog 38 [zcb exB0] (.d (iD 2)) := zcc (n := 200) mixed zak (by kernel_rfl)
theorem yd4 : zbg Try.prog 34 [zcb jli] (.d (oD true)) := zcc (n := 200) mixed zak (by kernel_rfl)
theorem yd5 : zbg Try.prog 34 [.agg [.fs [] 0, .fs (zav ⟨1, 2, 0, 0, 0⟩) 1, .fs [] 0, .fs [] 0]] (.d (oD false)) := zcc (n := 200) mixed zak (by kernel_rfl)
theorem jat {p : Pr} (h : PrOk p) {i : Nat} : ∀ j, i ≤ j → j ≤ p.regs.length → (zbu p i).gs <+: (zbu p j).gs
 | 0, hi, _ => by rw [show i = 0 by omega]; exact List.prefix_refl _
 | j + 1, hi, hj => by
  by_cases e : i = j + 1
  ·subst e; exact List.prefix_refl _
  ·have ih := jat h (i := i) j (by omega) (by omega)
   obtain ⟨hb, ht⟩ := zhx h (show j < p.regs.length by omega) (zeb h j (by omega))
   rw [← hb.wid] at ht
   exact ih.trans (hb.pre.trans ht.pre)
theorem jzf {n w : Nat} : (ze4 (lgP n w)).gates = (zbu (lgP n w) n).gs := by
 show (zbu (lgP n w) (lgP n w).regs.length).gs = _
 rw [zm2]
theorem yd6 : (zbu (lgP 16 8) 11).gs = lgG11 := yhz
theorem jr2 : 600 < 2 + (zfi (lgP 16 8)).length + (ze4 (lgP 16 8)).gates.length := by
 have hk := (jat (zum (n := 16) (w := 8) (by decide) (by decide) (by decide) (by decide)) (i := 11) 16 (by decide) (by rw [zm2]; decide)).length_le
 have h3 : 600 < 130 + lgG11.length := by decide +kernel
 rw [yd6] at hk
 rw [jam, jzf]
 omega
theorem jzg : zbg Try.prog 30 [zbq (lgP 16 8)] (.d (.agg (zeq ⟨[], [], [], []⟩ 2))) :=
 jhl (lgP 16 8) (zum (by decide) (by decide) (by decide) (by decide)) (by rw [jam]; decide) (by rw [zrv (by decide)]; decide) (by decide) jr2
theorem yd7 : zbg Try.prog 29 [.val (.int .u8 15), .val (.int .u8 7)] (.d (zbq (lgP 16 8))) := zru 15 7 (by decide) (by decide)
theorem jlj : zbg Try.prog 37 [zcb jli, zcb jli] (.d (oD true)) := jhu jli (by decide) (by decide) (by decide) (by decide)
theorem jlk : zbg Try.prog 37 [zcb exB0, zcb exB0] (.d (oD true)) := jhu exB0 (by decide) (by decide) (by decide) (by decide)
end Go.Proofs.Ytapjobndmmkanaa
